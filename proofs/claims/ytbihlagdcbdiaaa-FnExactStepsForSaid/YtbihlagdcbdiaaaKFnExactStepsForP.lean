/- Pure texts in one: The program's StepsFor and the reference's StepsFor return the same steps, for every two images; both stay as they were, the result is new memory. -/
import Derived.Test.YtbihlagdcbdiaaaKFnExactStepsFor0
import Derived.Test.YtbihlagdcbdiaaaKFnExactStepsFor1
import Derived.Test.YtbihlagdcbdiaaaKFnExactStepsFor2
import Derived.Test.YtbihlagdcbdiaaaKFnExactStepsFor3
import Derived.Test.YtbihlagdcbdiaaaWMore
import Derived.ProofKit
import Derived.WalkKit
import Derived.Deep.Slices
import Derived.DataReads
import Derived.Laws.BitsAllLaws
import Derived.Laws.Strings
import Derived.Lib.Bytealg
namespace Go.Proofs.Ytbihlagdcbdiaaa.Open
set_option linter.unusedVariables false
set_option linter.unusedSimpArgs false
open Go Go.RowKit Go.Deep Go.Proofs.YtbihlagdcbdiaaaW.PrintWords Go.Proofs.YtbihlagdcbdiaaaW.PrintLast Go.Proofs.YtbihlagdcbdiaaaW.PrintMore
/-- Cells of type t that can be read as data are a value of the kind d, for which ok holds. -/
def Opens {α : Type} (d : Kd α) (ok : α → Prop) (P : Program) (t : TypeId) : Prop :=
  ∀ (H : Type) (enc : TypeId × Value → H) (W : World) (base : Nat) (spare : Nat → Bool) (held : Bool) (fuel : Nat) (cs : List Value) (x : DataW H × List MemPlace),
    DataW.trod enc P W base spare held fuel t cs = some x → ∃ a : α, d.K W a cs ∧ ok a
def okStr (s : ByteArray) : Prop := s.size ≤ maxLen
def okList {α : Type} (ok : α → Prop) (l : List α) : Prop := l.length ≤ maxLen ∧ ∀ a ∈ l, ok a
theorem opens_string {P : Program} {t : TypeId} (ht : P.underlying t = some .string) : Opens Kd.string okStr P t := by
  intro H enc W base spare held fuel cs x h
  obtain ⟨s, rfl, _, hw⟩ := DataW.trod_string ht h
  exact ⟨s, rfl, hw⟩
theorem cells_at {w : World} {base : Nat} {a : Addr} {n : Nat} {cs : List Value} (h : w.cells? base a n = some cs) : cs.length = n ∧ ∀ i u, cs[i]? = some u → w.cell? (a.add i) = some u := by
  unfold World.cells? at h
  split at h
  · have hl : cs.length = n := by simpa using mapM_some_length h
    refine ⟨hl, fun i u hi => ?_⟩
    have hil : i < cs.length := (List.getElem?_eq_some_iff.1 hi).1
    have := mapM_some_get h i i (by rw [List.getElem?_range (by omega)])
    rw [this, hi]
  · cases h
theorem opens_slice {α : Type} {d : Kd α} {ok : α → Prop} {P : Program} {t e : TypeId} (z : α) (ht : P.underlying t = some (.slice e)) (hc : P.cellsOf e = d.sz) (he : Opens d ok P e) : Opens (Kd.slice e d) (okList ok) P t := by
  intro H enc W base spare held fuel cs x h
  rcases open_slice ht h with ⟨rfl, _⟩ | ⟨a, len, cap, m, n, D, Pl, rfl, _, hl, hm, hmeq, _, hel⟩
  · exact ⟨[], ⟨none, 0, rfl, Nat.le_refl _, rfl, by simp, fun hp => by simp at hp⟩, by simp [okList], by simp⟩
  · have hlm : len ≤ m := by rw [hmeq]; split <;> omega
    have key : ∀ i, i < len → ∃ y : α, ok y ∧ ∃ c, c.length = d.sz ∧ d.K W y c ∧ ∀ j u, c[j]? = some u → W.cell? (a.add (i * d.sz + j)) = some u := by
      intro i hi
      obtain ⟨cs', h1, h2⟩ := hel i (by omega)
      obtain ⟨y, hy, hok⟩ := he H enc W base spare held n cs' _ h2
      have hca := cells_at h1
      refine ⟨y, hok, cs', by rw [hca.1, hc], hy, fun j u hj => ?_⟩
      have := hca.2 j u hj
      rw [Go.Deep.add_add, hc] at this
      exact this
    let f : Nat → α := fun i => if h : i < len then (key i h).choose else z
    have hf : ∀ i (h : i < len), f i = (key i h).choose := fun i h => by simp only [f]; rw [dif_pos h]
    have hlen : ((List.range len).map f).length = len := by simp
    have hmax : (9223372036854775807 : Nat) ≥ maxLen := by unfold maxLen; omega
    refine ⟨(List.range len).map f, ⟨some a, cap, by rw [hlen], by rw [hlen]; exact hl, ?_⟩, by rw [hlen]; omega, fun y hy => ?_⟩
    · rw [hlen]
      refine ⟨hlen, by omega, fun _ => ⟨a, rfl, fun j p hj => ?_⟩⟩
      have hj' : j < len := by have := (List.getElem?_eq_some_iff.1 hj).1; rwa [hlen] at this
      have e : p = f j := by
        rw [List.getElem?_map, List.getElem?_range hj'] at hj
        simpa using hj.symm
      subst e
      rw [hf j hj']
      obtain ⟨_, c, h1, h2, h3⟩ := (key j hj').choose_spec
      exact ⟨c, h1, h2, h3⟩
    · obtain ⟨i, hi, rfl⟩ := List.mem_map.1 hy
      have hi' : i < len := by simpa using hi
      rw [hf i hi']
      exact (key i hi').choose_spec.1
end Go.Proofs.Ytbihlagdcbdiaaa.Open
namespace Go.Proofs.Ytbihlagdcbdiaaa.Pure
set_option linter.unusedVariables false
set_option linter.unusedSimpArgs false
open Go Go.RowKit Go.Proofs.YtbihlagdcbdiaaaW.PrintWords Go.Proofs.YtbihlagdcbdiaaaW.PrintLast Go.Proofs.YtbihlagdcbdiaaaW.PrintMore
theorem wrap64_id {n : Int} (h0 : -9223372036854775808 ≤ n) (h1 : n ≤ 9223372036854775807) : wrap64 n = n := by
  unfold wrap64; omega
theorem bt_nonneg (s : ByteArray) (i : Int) : 0 ≤ bt s i := (bt_range s i).1
theorem bt_le (s : ByteArray) (i : Int) : bt s i ≤ 255 := (bt_range s i).2
theorem toList_data (s : ByteArray) : s.toList = s.data.toList := ByteArray.toList_eq s
/-- One is known without rounds. -/
theorem Ev.bind1 {α β : Type} {g : Option α} {f : Nat → α → Option β} {a : α} {r : β} (h : g = some a) (k : Ev (fun n => f n a) r) : Ev (fun n => g.bind (f n)) r := by
  subst h
  exact k
end Go.Proofs.Ytbihlagdcbdiaaa.Pure
namespace Go.Proofs.Ytbihlagdcbdiaaa.Pure
set_option linter.unusedVariables false
set_option linter.unusedSimpArgs false
open Go Go.RowKit Go.Proofs.YtbihlagdcbdiaaaW.PrintWords Go.Proofs.YtbihlagdcbdiaaaW.PrintLast Go.Proofs.YtbihlagdcbdiaaaW.PrintMore
theorem set_mid {α : Type} (p : List α) (a b : α) (r : List α) : (p ++ a :: r).set (p.length : Int).toNat b = p ++ b :: r := by simp
theorem snoc_app {α : Type} (p : List α) (a : α) (r : List α) : p ++ a :: r = (p ++ [a]) ++ r := by simp
theorem lt_mid {α : Type} (p : List α) (a : α) (r : List α) : (p.length : Int) < ((p ++ a :: r).length : Int) := by rw [List.length_append, List.length_cons]; omega
theorem not_lt_end {α : Type} (p : List α) : ¬ (p.length : Int) < ((p ++ []).length : Int) := by rw [List.append_nil]; omega
theorem next64 {i : Nat} (h : i < 9223372036854775807) : wrap64 ((i : Int) + 1) = ((i + 1 : Nat) : Int) := by rw [wrap64_id (by omega) (by omega)]; omega
end Go.Proofs.Ytbihlagdcbdiaaa.Pure
namespace Go.Proofs.Ytbihlagdcbdiaaa.Pure
set_option linter.unusedVariables false
set_option linter.unusedSimpArgs false
open Go Go.RowKit Go.Proofs.Ytbihlagdcbdiaaa.Q Go.Proofs.YtbihlagdcbdiaaaW.PrintWords Go.Proofs.YtbihlagdcbdiaaaW.PrintLast Go.Proofs.YtbihlagdcbdiaaaW.PrintMore
theorem rdS_mid (p : List ByteArray) (a : ByteArray) (r : List ByteArray) : rdOf ByteArray.empty (p ++ a :: r) (p.length : Int) = a := by simp [rdOf]
theorem lenS_snoc {α : Type} (q : List α) (e : α) : (q ++ [e]).length = q.length + 1 := by simp
theorem eqStr_l0 (N : Nat) (hN : N < 9223372036854775807) (r : List ByteArray) : ∀ p : List ByteArray, p.length + r.length = N → Ev (fun k => laws_eqStringS.l0 k (p ++ r) (p ++ r) (p.length : Int)) true := by
  induction r with
  | nil => intro p h; exact Ev.step (fun k => by rw [laws_eqStringS.l0, if_neg (not_lt_end p)]) (Ev.now _)
  | cons a r ih =>
    intro p h
    simp only [List.length_cons] at h
    refine Ev.step (fun k => by rw [laws_eqStringS.l0, if_pos (lt_mid p a r), if_pos (by omega), if_pos (lt_mid p a r), if_pos rfl, next64 (by omega)]) ?_
    have := ih (p ++ [a]) (by simp; omega)
    rw [← snoc_app, lenS_snoc] at this
    exact this
theorem eqStr (l : List ByteArray) (h : l.length < 9223372036854775807) : Ev (fun k => laws_eqStringS.f k l l) true := by
  unfold laws_eqStringS.f
  simp only [if_true]
  exact eqStr_l0 l.length h l [] (by simp)
end Go.Proofs.Ytbihlagdcbdiaaa.Pure
namespace Go.Proofs.Ytbihlagdcbdiaaa.Pure
set_option linter.unusedVariables false
set_option linter.unusedSimpArgs false
open Go Go.RowKit Go.Proofs.Ytbihlagdcbdiaaa.Q Go.Proofs.YtbihlagdcbdiaaaW.PrintWords Go.Proofs.YtbihlagdcbdiaaaW.PrintLast Go.Proofs.YtbihlagdcbdiaaaW.PrintMore
def imageM (l : List ByteArray) : Bool := decide (1 ≤ (l.length : Int) ∧ (l.length : Int) ≤ 8) && !(l.any (fun s => (s.size : Int) != 8))
theorem implImage (l : List ByteArray) (h : l.length ≤ 9223372036854775807) : impl_isImage.f l = some (imageM l) := by
  unfold impl_isImage.f imageM
  rw [if_pos h]
theorem specImage_l0 (N : Nat) (hN : N ≤ 1000) (r : List ByteArray) : ∀ p : List ByteArray, p.length + r.length = N → Ev (fun k => spec_ImageRight.l0 k (p ++ r) (p.length : Int)) (!(r.any (fun s => (s.size : Int) != 8))) := by
  induction r with
  | nil => intro p h; exact Ev.step (f := fun _ => some true) (fun k => by rw [spec_ImageRight.l0, if_neg (not_lt_end p)]) (Ev.now _)
  | cons a r ih =>
    intro p h
    simp only [List.length_cons] at h
    refine Ev.step (fun k => by rw [spec_ImageRight.l0, if_pos (lt_mid p a r), if_pos (by omega), rdS_mid, next64 (by omega)]) ?_
    rw [List.any_cons]
    by_cases g : (a.size : Int) = 8
    · simp only [if_pos g, show ((a.size : Int) != 8) = false from bne_eq_false_iff_eq.2 g, Bool.false_or]
      have := ih (p ++ [a]) (by simp; omega)
      rw [← snoc_app, lenS_snoc] at this
      exact this
    · simp only [if_neg g, show ((a.size : Int) != 8) = true from bne_iff_ne.2 g, Bool.true_or, Bool.not_true]
      exact Ev.now _
theorem specImage (l : List ByteArray) : Ev (fun k => spec_ImageRight.f k l) (imageM l) := by
  unfold spec_ImageRight.f imageM
  by_cases h1 : (l.length : Int) < 1
  · simp only [if_pos h1, decide_eq_false (show ¬ (1 ≤ (l.length : Int) ∧ (l.length : Int) ≤ 8) by omega), Bool.false_and]
    exact Ev.step (fun k => by rw [spec_ImageRight.j0, if_pos rfl]) (Ev.now _)
  · simp only [if_neg h1]
    by_cases h2 : (l.length : Int) > 8
    · rw [decide_eq_true h2, decide_eq_false (show ¬ (1 ≤ (l.length : Int) ∧ (l.length : Int) ≤ 8) by omega), Bool.false_and]
      exact Ev.step (fun k => by rw [spec_ImageRight.j0, if_pos rfl]) (Ev.now _)
    · rw [decide_eq_false h2, decide_eq_true (show 1 ≤ (l.length : Int) ∧ (l.length : Int) ≤ 8 by omega), Bool.true_and]
      have := specImage_l0 l.length (by omega) l [] (by simp)
      exact Ev.step (f := fun k => spec_ImageRight.l0 k l 0) (fun k => by rw [spec_ImageRight.j0, if_neg (by decide)]) this
end Go.Proofs.Ytbihlagdcbdiaaa.Pure
namespace Go.Proofs.Ytbihlagdcbdiaaa.Pure
set_option linter.unusedVariables false
set_option linter.unusedSimpArgs false
open Go Go.RowKit Go.Proofs.Ytbihlagdcbdiaaa.Q Go.Proofs.YtbihlagdcbdiaaaW.PrintWords Go.Proofs.YtbihlagdcbdiaaaW.PrintLast Go.Proofs.YtbihlagdcbdiaaaW.PrintMore
theorem xs_length (a b : ByteArray) : ∀ k, (impl_xored.xs a b k).length = k := by
  intro k
  induction k with
  | zero => rfl
  | succ k ih => simp [impl_xored.xs, ih]
def xorM (a b : ByteArray) : ByteArray := strOfNums (impl_xored.xs a b 8)
theorem specXored_l0 (a b : ByteArray) (ha : a.size = 8) (hb : b.size = 8) (d : Nat) : ∀ i : Nat, i + d = 8 →
    Ev (fun k => spec_Xored.l0 k a b (impl_xored.xs a b i ++ List.replicate d 0) (i : Int)) (xorM a b) := by
  induction d with
  | zero =>
    intro i h
    obtain rfl : i = 8 := by omega
    exact Ev.step (fun k => by rw [spec_Xored.l0, if_neg (by omega), List.replicate_zero, List.append_nil]; rfl) (Ev.now _)
  | succ d ih =>
    intro i h
    have := ih (i + 1) (by omega)
    refine Ev.step (fun k => ?_) this
    have e1 : wrap64 ((i : Int) + 1) = ((i + 1 : Nat) : Int) := by rw [wrap64_id (by omega) (by omega)]; omega
    have e2 : (impl_xored.xs a b i ++ (0 : Int) :: List.replicate d 0).set (i : Int).toNat (Go.bits .xor .u8 (bt a i) (bt b i)) = impl_xored.xs a b (i + 1) ++ List.replicate d 0 := by
      have hl := xs_length a b i
      rw [impl_xored.xs, List.append_assoc, Int.toNat_natCast]
      conv => lhs; rw [show i = (impl_xored.xs a b i).length from hl.symm]
      simp [hl]
    have hlen : ((impl_xored.xs a b i ++ List.replicate (d + 1) (0 : Int)).length : Int) = 8 := by
      rw [List.length_append, xs_length, List.length_replicate]; omega
    rw [spec_Xored.l0, if_pos (by omega), if_pos (by omega), if_pos (by omega), if_pos (by omega), hlen, if_pos (by omega), List.replicate_succ, e2, e1]
theorem specXored (a b : ByteArray) : Ev (fun k => spec_Xored.f k a b) (if a.size = 8 ∧ b.size = 8 then xorM a b else ⟨#[]⟩) := by
  unfold spec_Xored.f
  by_cases ha : a.size = 8
  · simp only [if_pos (show (a.size : Int) = 8 by omega)]
    by_cases hb : b.size = 8
    · rw [if_pos ⟨ha, hb⟩, show ((b.size : Int) != 8) = false by simp [hb]]
      have := specXored_l0 a b ha hb 8 0 rfl
      exact Ev.step (fun k => by rw [spec_Xored.j0, if_neg (by decide), if_pos (by decide)]; rfl) this
    · rw [if_neg (fun h => hb h.2), show ((b.size : Int) != 8) = true by simp; omega]
      exact Ev.step (fun k => by rw [spec_Xored.j0, if_pos rfl]) (Ev.now _)
  · simp only [if_neg (show ¬ (a.size : Int) = 8 by omega)]
    rw [if_neg (fun h => ha h.1)]
    exact Ev.step (fun k => by rw [spec_Xored.j0, if_pos rfl]) (Ev.now _)
end Go.Proofs.Ytbihlagdcbdiaaa.Pure
namespace Go.Proofs.Ytbihlagdcbdiaaa.Pure
set_option linter.unusedVariables false
set_option linter.unusedSimpArgs false
open Go Go.RowKit Go.Proofs.Ytbihlagdcbdiaaa.Q Go.Proofs.YtbihlagdcbdiaaaW.PrintWords Go.Proofs.YtbihlagdcbdiaaaW.PrintLast Go.Proofs.YtbihlagdcbdiaaaW.PrintMore
theorem xor8 {a b : Nat} (ha : a < 256) (hb : b < 256) : Go.bits .xor .u8 (a : Int) (b : Int) = ((a ^^^ b : Nat) : Int) := by
  have hx := Nat.xor_lt_two_pow (n := 8) ha hb
  simp [Go.bits]
  rw [show IntKind.u8.bits = 8 from rfl, Nat.mod_eq_of_lt (show a < 2 ^ 8 by omega), Nat.mod_eq_of_lt (show b < 2 ^ 8 by omega)]
  generalize a ^^^ b = c at hx ⊢
  simp [IntKind.wrap, IntKind.signed, IntKind.bits]; omega
theorem xor_zero (x y : Int) (hx : 0 ≤ x ∧ x ≤ 255) (hy : 0 ≤ y ∧ y ≤ 255) : UInt8.ofNat (Go.bits .xor .u8 x y).toNat = 0 ↔ x = y := by
  obtain ⟨a, rfl⟩ := Int.eq_ofNat_of_zero_le hx.1
  obtain ⟨b, rfl⟩ := Int.eq_ofNat_of_zero_le hy.1
  have ha : a < 256 := by omega
  have hb : b < 256 := by omega
  have hl : a ^^^ b < 256 := Nat.xor_lt_two_pow (n := 8) ha hb
  rw [xor8 ha hb, Int.toNat_natCast]
  constructor
  · intro h
    have h2 : (UInt8.ofNat (a ^^^ b)).toNat = 0 := by rw [h]; rfl
    rw [UInt8.toNat_ofNat', Nat.mod_eq_of_lt (show a ^^^ b < 2 ^ 8 by omega)] at h2
    have : a = b := by
      apply Nat.eq_of_testBit_eq
      intro j
      have hj : (a ^^^ b).testBit j = false := by rw [h2]; exact Nat.zero_testBit j
      rw [Nat.testBit_xor] at hj
      cases h1 : a.testBit j <;> cases h2 : b.testBit j <;> simp_all
    omega
  · intro h
    have : a = b := by omega
    subst this
    rw [Nat.xor_self]; rfl
/-- In how many of the first k bytes two texts differ. -/
def otherN (x b : ByteArray) : Nat → Nat
  | 0 => 0
  | k + 1 => otherN x b k + (if bt x (k : Int) = bt b (k : Int) then 0 else 1)
theorem cnt_other (x b : ByteArray) : ∀ k : Nat, Lib.countByte (strOfNums (impl_xored.xs x b k)).data.toList 0 + otherN x b k = k := by
  intro k
  induction k with
  | zero => rfl
  | succ k ih =>
    rw [strOfNums_data] at ih ⊢
    rw [impl_xored.xs, List.map_append, otherN]
    unfold Lib.countByte at ih ⊢
    rw [List.count_append]
    have hz := xor_zero (bt x (k : Int)) (bt b (k : Int)) ⟨bt_nonneg _ _, bt_le _ _⟩ ⟨bt_nonneg _ _, bt_le _ _⟩
    by_cases h : bt x (k : Int) = bt b (k : Int)
    · rw [if_pos h]
      have e := hz.2 h
      simp only [List.map_cons, List.map_nil, e]
      simp only [List.count_singleton_self]
      omega
    · rw [if_neg h]
      have e : ¬ UInt8.ofNat (Go.bits .xor .u8 (bt x (k : Int)) (bt b (k : Int))).toNat = 0 := fun g => h (hz.1 g)
      simp only [List.map_cons, List.map_nil]
      rw [List.count_eq_zero.2 (show (0 : UInt8) ∉ [UInt8.ofNat (Go.bits .xor .u8 (bt x (k : Int)) (bt b (k : Int))).toNat] by rw [List.mem_singleton]; exact fun g => e g.symm)]
      omega
theorem otherN_le (x b : ByteArray) : ∀ k, otherN x b k ≤ k := by
  intro k
  have := cnt_other x b k
  omega
theorem near_eq (b x : ByteArray) (hx : x.size = 8) : impl_stepsFor.near b x = decide (otherN x b 8 ≤ 2) := by
  unfold impl_stepsFor.near impl_stepsFor.mix
  rw [hx]
  have := cnt_other x b 8
  rw [Bool.eq_iff_iff, decide_eq_true_iff, decide_eq_true_iff]
  omega
theorem specOther_l0 (x b : ByteArray) (hx : x.size = 8) (hb : b.size = 8) (d : Nat) : ∀ i : Nat, i + d = 8 → Ev (fun k => spec_l07Other.l0 k x b (otherN x b i : Int) (i : Int)) (otherN x b 8 : Int) := by
  induction d with
  | zero =>
    intro i h
    obtain rfl : i = 8 := by omega
    exact Ev.step (f := fun _ => some _) (fun k => by rw [spec_l07Other.l0, if_neg (by omega)]) (Ev.now _)
  | succ d ih =>
    intro i h
    have := ih (i + 1) (by omega)
    have hl := otherN_le x b i
    refine Ev.step (fun k => by rw [spec_l07Other.l0, if_pos (by omega), if_pos (by omega), if_pos (by omega), if_pos (by omega), next64 (by omega)]) ?_
    rw [otherN] at this
    by_cases g : bt x (i : Int) = bt b (i : Int)
    · simp only [if_pos g]
      rw [if_pos g, Nat.add_zero] at this
      exact this
    · simp only [if_neg g]
      rw [if_neg g] at this
      rw [wrap64_id (by omega) (by omega)]
      exact this
theorem specOther (x b : ByteArray) (hx : x.size = 8) (hb : b.size = 8) : Ev (fun k => spec_l07Other.f k x b) (otherN x b 8 : Int) := by
  unfold spec_l07Other.f
  exact specOther_l0 x b hx hb 8 0 rfl
def forT (old : List ByteArray) (i : Int) (b : ByteArray) (n : Int) : Int × Int × Int × ByteArray := if 0 ≤ n then (4, i, n, impl_stepsFor.mix b (rdOf ByteArray.empty old n)) else (2, i, 0, b)
theorem specFor_l1 (N : Nat) (hN : N ≤ 1000) (i : Int) (b : ByteArray) (hb : b.size = 8) (r : List ByteArray) : ∀ q : List ByteArray, q.length + r.length = N → (∀ x ∈ r, x.size = 8) →
    Ev (fun k => spec_l07For.l1 k (q ++ r) i b (q.length : Int)) (forT (q ++ r) i b (idxFrom (impl_stepsFor.near b) r (q.length : Int))) := by
  induction r with
  | nil => intro q h _; exact Ev.step (fun k => by rw [spec_l07For.l1, if_neg (not_lt_end q)]; rfl) (Ev.now _)
  | cons a r ih =>
    intro q h hs
    simp only [List.length_cons] at h
    have ha : a.size = 8 := hs a (by simp)
    refine Ev.step (fun k => by rw [spec_l07For.l1, if_pos (lt_mid q a r), if_pos (by omega), rdS_mid, next64 (by omega)]) ?_
    refine Ev.bind (specOther a b ha hb) ?_
    rw [idxFrom, near_eq b a ha]
    by_cases g : otherN a b 8 ≤ 2
    · simp only [if_pos (show (otherN a b 8 : Int) ≤ 2 by omega), decide_eq_true g, if_true]
      have hx := specXored a b
      rw [if_pos ⟨ha, hb⟩] at hx
      refine Ev.bind hx ?_
      unfold forT
      rw [if_pos (show (0 : Int) ≤ (q.length : Int) by omega), rdS_mid]
      unfold impl_stepsFor.mix
      rw [ha]
      exact Ev.now _
    · simp only [if_neg (show ¬ (otherN a b 8 : Int) ≤ 2 by omega), decide_eq_false g, Bool.false_eq_true, if_false]
      have := ih (q ++ [a]) (by simp; omega) (fun x hx => hs x (by simp [hx]))
      rw [← snoc_app, lenS_snoc] at this
      exact this
theorem specFor_l0 (N : Nat) (hN : N ≤ 1000) (i : Int) (b : ByteArray) (L : List ByteArray) (R : Int × Int × Int × ByteArray) (hR : Ev (fun k => spec_l07For.l1 k L i b 0) R) (r : List ByteArray) : ∀ q : List ByteArray, q ++ r = L → q.length + r.length = N →
    Ev (fun k => spec_l07For.l0 k L i b (q.length : Int)) (if 0 ≤ idxFrom (impl_stepsFor.same b) r (q.length : Int) then (3, i, idxFrom (impl_stepsFor.same b) r (q.length : Int), (⟨#[]⟩ : ByteArray)) else R) := by
  induction r with
  | nil =>
    intro q hq h
    rw [if_neg (by simp [idxFrom])]
    subst hq
    exact Ev.step (fun k => by rw [spec_l07For.l0, if_neg (not_lt_end q)]) hR
  | cons a r ih =>
    intro q hq h
    simp only [List.length_cons] at h
    have e1 : (q.length : Int) < (L.length : Int) := by rw [← hq]; exact lt_mid q a r
    have e2 : rdOf ByteArray.empty L (q.length : Int) = a := by rw [← hq]; exact rdS_mid q a r
    refine Ev.step (fun k => by rw [spec_l07For.l0, if_pos e1, if_pos (by omega), e2, next64 (by omega)]) ?_
    rw [idxFrom]
    unfold impl_stepsFor.same
    by_cases g : a.toList = b.toList
    · simp only [if_pos g, decide_eq_true g.symm, if_true, if_pos (show (0 : Int) ≤ (q.length : Int) by omega)]
      exact Ev.now _
    · simp only [if_neg g, decide_eq_false (fun h => g (Eq.symm h)), Bool.false_eq_true, if_false]
      have := ih (q ++ [a]) (by rw [← hq]; simp) (by simp; omega)
      rw [lenS_snoc] at this
      exact this
theorem zero_block : spec_l07Zero.f = some (⟨#[0, 0, 0, 0, 0, 0, 0, 0]⟩ : ByteArray) := by unfold spec_l07Zero.f; rw [if_pos (by decide)]; rfl
theorem specFor (old : List ByteArray) (i : Int) (b : ByteArray) (hl : old.length ≤ 1000) (ho : ∀ x ∈ old, x.size = 8) (hb : b.size = 8) :
    Ev (fun k => spec_l07For.f k old i b) ((impl_stepsFor.step old i b).f0, (impl_stepsFor.step old i b).f1, (impl_stepsFor.step old i b).f2, (impl_stepsFor.step old i b).f3) := by
  unfold spec_l07For.f impl_stepsFor.step
  refine Ev.bind1 zero_block ?_
  have ez : (⟨#[0, 0, 0, 0, 0, 0, 0, 0]⟩ : ByteArray).toList = ([0, 0, 0, 0, 0, 0, 0, 0] : List UInt8) := by rw [toList_data]
  simp only [ez]
  by_cases g : b.toList = ([0, 0, 0, 0, 0, 0, 0, 0] : List UInt8)
  · simp only [if_pos g]; exact Ev.now _
  · simp only [if_neg g]
    have h1 := specFor_l1 old.length hl i b hb old [] (Nat.zero_add _) ho
    have h0 := specFor_l0 old.length hl i b old _ h1 old [] rfl (Nat.zero_add _)
    refine Ev.congr (fun k => rfl) ?_
    have key : (if 0 ≤ idxFrom (impl_stepsFor.same b) old (([] : List ByteArray).length : Int) then ((3 : Int), i, idxFrom (impl_stepsFor.same b) old (([] : List ByteArray).length : Int), (⟨#[]⟩ : ByteArray)) else forT ([] ++ old) i b (idxFrom (impl_stepsFor.near b) old (([] : List ByteArray).length : Int))) = _ := rfl
    have h0' := h0
    clear key
    simp only [List.length_nil, Int.natCast_zero, List.nil_append, forT] at h0'
    by_cases g1 : 0 ≤ idxFrom (impl_stepsFor.same b) old 0
    · simp only [if_pos g1] at h0' ⊢; exact h0'
    · simp only [if_neg g1] at h0' ⊢
      by_cases g2 : 0 ≤ idxFrom (impl_stepsFor.near b) old 0
      · simp only [if_pos g2] at h0' ⊢; exact h0'
      · simp only [if_neg g2] at h0' ⊢; exact h0'
theorem specSteps_l0 (l0 l1 : List ByteArray) (hl : l0.length = l1.length) (h8 : l0.length ≤ 8) (h0 : ∀ x ∈ l0, x.size = 8) (h1 : ∀ x ∈ l1, x.size = 8) (d : Nat) : ∀ (i : Nat) (acc : List S34), i + d = l1.length → acc.length ≤ i →
    Ev (fun k => spec_StepsFor.l0 k l0 l1 acc (i : Int)) (acc ++ impl_stepsFor.steps l0 (l1.drop i) (i : Int)) := by
  induction d with
  | zero =>
    intro i acc h ha
    rw [List.drop_eq_nil_of_le (by omega), impl_stepsFor.steps, List.append_nil]
    exact Ev.step (fun k => by rw [spec_StepsFor.l0, if_neg (by omega)]) (Ev.now _)
  | succ d ih =>
    intro i acc h ha
    have hi : i < l1.length := by omega
    have e1 : rdOf ByteArray.empty l1 (i : Int) = l1[i] := by simp [rdOf, hi]
    rw [idxFrom_drop l1 i hi, impl_stepsFor.steps]
    refine Ev.step (fun k => by rw [spec_StepsFor.l0, if_pos (by omega), if_pos (by omega), if_pos (by omega), e1, next64 (by omega)]) ?_
    by_cases g : (rdOf ByteArray.empty l0 (i : Int)).toList = l1[i].toList
    · simp only [if_pos g]
      exact ih (i + 1) acc (by omega) (by omega)
    · simp only [if_neg g]
      refine Ev.bind (specFor l0 (i : Int) l1[i] (by omega) h0 (h1 _ (List.getElem_mem hi))) ?_
      simp only [if_pos (show acc.length < 3518437208883 by omega)]
      have := ih (i + 1) (acc ++ [impl_stepsFor.step l0 (i : Int) l1[i]]) (by omega) (by simp; omega)
      rw [List.append_assoc] at this
      exact this
theorem image_all {l : List ByteArray} (h : imageM l = true) : (1 ≤ l.length ∧ l.length ≤ 8) ∧ ∀ x ∈ l, x.size = 8 := by
  unfold imageM at h
  simp only [Bool.and_eq_true, decide_eq_true_eq, Bool.not_eq_true'] at h
  refine ⟨by omega, fun x hx => ?_⟩
  have := List.any_eq_false.1 h.2 x hx
  have h3 : (x.size : Int) = 8 := by simpa using this
  omega
/-- What both StepsFor give. -/
def forM (old fresh : List ByteArray) : List S34 := if (imageM old = true ∧ imageM fresh = true) ∧ old.length = fresh.length then impl_stepsFor.steps old fresh 0 else []
theorem steps_length (old : List ByteArray) : ∀ (r : List ByteArray) (i : Int), (impl_stepsFor.steps old r i).length ≤ r.length := by
  intro r
  induction r with
  | nil => intro i; simp [impl_stepsFor.steps]
  | cons b r ih =>
    intro i
    rw [impl_stepsFor.steps]
    have := ih (i + 1)
    split <;> simp only [List.length_cons] <;> omega
theorem forM_length (old fresh : List ByteArray) : (forM old fresh).length ≤ fresh.length := by
  unfold forM; split
  · exact steps_length _ _ _
  · simp
theorem implStepsFor (old fresh : List ByteArray) (h1 : old.length ≤ 9223372036854775807) (h2 : fresh.length ≤ 9223372036854775807) : impl_StepsFor.f old fresh = some (forM old fresh) := by
  unfold impl_StepsFor.f forM
  rw [implImage old h1, Option.bind_some]
  by_cases g1 : imageM old = true
  · rw [if_pos g1, implImage fresh h2, Option.bind_some]
    by_cases g2 : imageM fresh = true
    · rw [if_pos g2]
      by_cases g3 : old.length = fresh.length
      · rw [if_pos (by omega), if_pos ⟨⟨g1, g2⟩, g3⟩]
        obtain ⟨a1, a2⟩ := image_all g1
        obtain ⟨b1, b2⟩ := image_all g2
        unfold impl_stepsFor.f
        rw [if_pos ⟨⟨g3, by omega⟩, a2, b2⟩]
        rfl
      · rw [if_neg (by omega), if_neg (fun h => g3 h.2)]
    · rw [if_neg g2, if_neg (fun h => g2 h.1.2)]
  · rw [if_neg g1, if_neg (fun h => g1 h.1.1)]
theorem specStepsFor (old fresh : List ByteArray) : Ev (fun k => spec_StepsFor.f k old fresh) (forM old fresh) := by
  unfold spec_StepsFor.f forM
  refine Ev.bind1 rfl (Ev.bind (specImage old) ?_)
  by_cases g1 : imageM old = true
  · simp only [if_pos g1]
    refine Ev.bind (specImage fresh) ?_
    by_cases g2 : imageM fresh = true
    · simp only [if_pos g2]
      by_cases g3 : old.length = fresh.length
      · rw [if_pos ⟨⟨g1, g2⟩, g3⟩, show ((old.length : Int) != (fresh.length : Int)) = false by simp [g3]]
        obtain ⟨a1, a2⟩ := image_all g1
        obtain ⟨b1, b2⟩ := image_all g2
        have := specSteps_l0 old fresh g3 (by omega) a2 b2 fresh.length 0 [] (Nat.zero_add _) (Nat.le_refl _)
        exact Ev.step (f := fun k => spec_StepsFor.l0 k old fresh [] 0) (fun k => by rw [spec_StepsFor.j0, if_neg (by decide)]) this
      · rw [if_neg (fun h => g3 h.2), show ((old.length : Int) != (fresh.length : Int)) = true by simp; omega]
        exact Ev.step (fun k => by rw [spec_StepsFor.j0, if_pos rfl]) (Ev.now _)
    · simp only [if_neg g2]
      rw [if_neg (fun h => g2 h.1.2)]
      exact Ev.step (fun k => by rw [spec_StepsFor.j0, if_pos rfl]) (Ev.now _)
  · simp only [if_neg g1]
    rw [if_neg (fun h => g1 h.1.1)]
    exact Ev.step (fun k => by rw [spec_StepsFor.j0, if_pos rfl]) (Ev.now _)
end Go.Proofs.Ytbihlagdcbdiaaa.Pure
namespace Go.Proofs.Ytbihlagdcbdiaaa.Pure
set_option linter.unusedVariables false
set_option linter.unusedSimpArgs false
open Go Go.RowKit Go.Proofs.Ytbihlagdcbdiaaa.Q Go.Proofs.YtbihlagdcbdiaaaW.PrintWords Go.Proofs.YtbihlagdcbdiaaaW.PrintLast Go.Proofs.YtbihlagdcbdiaaaW.PrintMore
def mtGo : Nat → Nat → ByteArray → ByteArray
  | 0, _, acc => (⟨#[109]⟩ : ByteArray) ++ acc
  | d + 1, x, acc => if x = 0 then (⟨#[109]⟩ : ByteArray) ++ acc else mtGo d (x / 10) (strOfNums [(wrap64 (48 + (Int.tmod (x : Int) 10))) % 256] ++ acc)
def markT (m : Int) : ByteArray := if m ≤ 0 then (⟨#[109, 48]⟩ : ByteArray) else mtGo 19 m.toNat (⟨#[]⟩ : ByteArray)
theorem markText_l0 (d : Nat) : ∀ (x : Nat) (acc : ByteArray), x < 10 ^ d → x < 9223372036854775807 → acc.size + d ≤ 1000 → Ev (fun k => laws_markText.l0 k (x : Int) acc) (mtGo d x acc) := by
  induction d with
  | zero =>
    intro x acc h _ hs
    simp only [Nat.pow_zero, Nat.lt_one_iff] at h
    subst h
    exact Ev.step (fun k => by rw [laws_markText.l0, if_neg (by omega), if_pos (by omega)]) (by rw [mtGo]; exact Ev.now _)
  | succ d ih =>
    intro x acc h h6 hs
    rw [mtGo]
    by_cases g : x = 0
    · subst g
      exact Ev.step (fun k => by rw [laws_markText.l0, if_neg (by omega), if_pos (by omega)]) (by rw [if_pos rfl]; exact Ev.now _)
    · rw [if_neg g]
      have e1 : wrap64 (Int.tdiv (x : Int) 10) = ((x / 10 : Nat) : Int) := by
        rw [Int.tdiv_eq_ediv_of_nonneg (by omega), wrap64_id (by omega) (by omega)]; omega
      have e2 : (strOfNums [(wrap64 (48 + (Int.tmod (x : Int) 10))) % 256]).size = 1 := by rw [strOfNums_size]; rfl
      refine Ev.step (fun k => by rw [laws_markText.l0, if_pos (by omega), Option.bind_some, if_pos (by rw [e2]; omega), e1]) ?_
      exact ih (x / 10) _ (by rw [Nat.pow_succ] at h; omega) (by omega) (by rw [ByteArray.size_append, e2]; omega)
theorem markText (m : Int) (h : m ≤ 4000000000000000000) : Ev (fun k => laws_markText.f k m) (markT m) := by
  unfold laws_markText.f markT
  by_cases g : m ≤ 0
  · simp only [if_pos g]; exact Ev.now _
  · simp only [if_neg g]
    have := markText_l0 19 m.toNat (⟨#[]⟩ : ByteArray) (by omega) (by omega) (by decide)
    rw [Int.toNat_of_nonneg (by omega)] at this
    exact this
end Go.Proofs.Ytbihlagdcbdiaaa.Pure
namespace Go.Proofs.Ytbihlagdcbdiaaa.Pure
set_option linter.unusedVariables false
set_option linter.unusedSimpArgs false
open Go Go.RowKit Go.Proofs.Ytbihlagdcbdiaaa.Q Go.Proofs.YtbihlagdcbdiaaaW.PrintWords Go.Proofs.YtbihlagdcbdiaaaW.PrintLast Go.Proofs.YtbihlagdcbdiaaaW.PrintMore
def marksT : Int → Nat → List ByteArray
  | _, 0 => []
  | m, n + 1 => markT m :: marksT (m + 1) n
theorem markStr_l0 (N : Nat) (hN : N < 1000000000000000000) (r : List ByteArray) : ∀ (p : List ByteArray) (m : Int), p.length + r.length = N → 0 ≤ m → m + r.length ≤ 4000000000000000000 →
    Ev (fun k => laws_markStringS.l0 k (p ++ r) m (p.length : Int)) (m + r.length, p ++ marksT m r.length) := by
  induction r with
  | nil => intro p m h h0 h1; exact Ev.step (fun k => by rw [laws_markStringS.l0, if_neg (not_lt_end p)]) (by simpa [marksT] using Ev.now _)
  | cons a r ih =>
    intro p m h h0 h1
    simp only [List.length_cons] at h h1
    refine Ev.step (fun k => by rw [laws_markStringS.l0, if_pos (lt_mid p a r), next64 (by omega), wrap64_id (n := m + 1) (by omega) (by omega)]) ?_
    refine Ev.bind (markText m (by omega)) ?_
    simp only [if_pos (show (0 : Int) ≤ (p.length : Int) by omega)]
    have := ih (p ++ [markT m]) (m + 1) (by simp; omega) (by omega) (by omega)
    rw [← snoc_app, lenS_snoc, List.append_assoc] at this
    rw [List.length_cons, marksT, show m + ((r.length + 1 : Nat) : Int) = m + 1 + (r.length : Int) by omega]
    simp only [set_mid]
    exact this
theorem markStr (l : List ByteArray) (m : Int) (h : l.length < 1000000000000000000) (h0 : 0 ≤ m) (h1 : m + l.length ≤ 4000000000000000000) : Ev (fun k => laws_markStringS.f k l m) (m + l.length, marksT m l.length) := by
  unfold laws_markStringS.f
  have := markStr_l0 l.length h l [] m (by simp) h0 h1
  exact this
end Go.Proofs.Ytbihlagdcbdiaaa.Pure
namespace Go.Proofs.Ytbihlagdcbdiaaa.Pure
set_option linter.unusedVariables false
set_option linter.unusedSimpArgs false
open Go Go.RowKit Go.Proofs.Ytbihlagdcbdiaaa.Q Go.Proofs.YtbihlagdcbdiaaaW.PrintWords Go.Proofs.YtbihlagdcbdiaaaW.PrintLast Go.Proofs.YtbihlagdcbdiaaaW.PrintMore
theorem toStr_l0 (N : Nat) (hN : N < 9223372036854775807) (r : List ByteArray) : ∀ p : List ByteArray, p.length + r.length = N →
    Ev (fun k => laws_toStringS.l0 k (p ++ r) (p ++ List.replicate r.length (⟨#[]⟩ : ByteArray)) (p.length : Int)) (p ++ r) := by
  induction r with
  | nil => intro p h; exact Ev.step (fun k => by rw [laws_toStringS.l0, if_neg (not_lt_end p)]) (by simpa using Ev.now _)
  | cons a r ih =>
    intro p h
    simp only [List.length_cons] at h
    refine Ev.step (fun k => by rw [laws_toStringS.l0, if_pos (lt_mid p a r), if_pos (by omega), List.length_cons, List.replicate_succ, if_pos (lt_mid p _ _), rdS_mid, set_mid, next64 (by omega)]) ?_
    have := ih (p ++ [a]) (by simp; omega)
    rw [← snoc_app, lenS_snoc, List.append_assoc] at this
    exact this
theorem toStr (l : List ByteArray) (h : l.length ≤ 17592186044416) : Ev (fun k => laws_toStringS.f k l) l := by
  unfold laws_toStringS.f
  simp only [if_pos (show (0 : Int) ≤ (l.length : Int) by omega), Int.toNat_natCast, if_pos h]
  exact toStr_l0 l.length (by omega) l [] (by simp)
theorem szStr_l0 (N : Nat) (hN : N ≤ 1048576) (r : List ByteArray) : ∀ (p : List ByteArray) (x : Int), p.length + r.length = N → 0 ≤ x → x ≤ 1048576 → (∀ s ∈ r, s.size ≤ 9223372036854775807) →
    ∃ v, Ev (fun k => laws_szStringS.l0 k (p ++ r) x (p.length : Int)) v ∧ -1 ≤ v ∧ v ≤ 1048576 := by
  induction r with
  | nil => intro p x h h0 h1 _; exact ⟨x, Ev.step (fun k => by rw [laws_szStringS.l0, if_neg (not_lt_end p)]) (Ev.now _), by omega, by omega⟩
  | cons a r ih =>
    intro p x h h0 h1 hs
    simp only [List.length_cons] at h
    have ha := hs a (by simp)
    by_cases g : x - (a.size : Int) < 0
    · refine ⟨-1, Ev.step (fun k => by rw [laws_szStringS.l0, if_pos (lt_mid p a r), if_pos (by omega), rdS_mid, wrap64_id (n := x - (a.size : Int)) (by omega) (by omega), if_pos g]) (Ev.now _), by omega, by omega⟩
    · obtain ⟨v, e, b0, b1⟩ := ih (p ++ [a]) (x - (a.size : Int)) (by simp; omega) (by omega) (by omega) (fun s h => hs s (by simp [h]))
      rw [← snoc_app, lenS_snoc] at e
      exact ⟨v, Ev.step (fun k => by rw [laws_szStringS.l0, if_pos (lt_mid p a r), if_pos (by omega), rdS_mid, wrap64_id (n := x - (a.size : Int)) (by omega) (by omega), if_neg g, next64 (by omega)]) e, b0, b1⟩
end Go.Proofs.Ytbihlagdcbdiaaa.Pure
namespace Go.Proofs.Ytbihlagdcbdiaaa.Pure
set_option linter.unusedVariables false
set_option linter.unusedSimpArgs false
open Go Go.RowKit Go.Proofs.Ytbihlagdcbdiaaa.Q Go.Proofs.YtbihlagdcbdiaaaW.PrintWords Go.Proofs.YtbihlagdcbdiaaaW.PrintLast Go.Proofs.YtbihlagdcbdiaaaW.PrintMore
abbrev Stp := S34
theorem rdSt_mid (p : List Stp) (a : Stp) (r : List Stp) : rd_T34 (p ++ a :: r) (p.length : Int) = a := by simp [rd_T34]
theorem eqSt_l0 (N : Nat) (hN : N < 9223372036854775807) (r : List Stp) : ∀ p : List Stp, p.length + r.length = N → Ev (fun k => laws_eqStepS.l0 k (p ++ r) (p ++ r) (p.length : Int)) true := by
  induction r with
  | nil => intro p h; exact Ev.step (fun k => by rw [laws_eqStepS.l0, if_neg (not_lt_end p)]) (Ev.now _)
  | cons a r ih =>
    intro p h
    simp only [List.length_cons] at h
    refine Ev.step (fun k => by rw [laws_eqStepS.l0, if_pos (lt_mid p a r), if_pos (by omega), if_pos (lt_mid p a r), rdSt_mid, next64 (by omega)]) ?_
    refine Ev.bind1 (a := true) (by unfold laws_eqStep.f; simp) ?_
    simp only [if_true]
    have := ih (p ++ [a]) (by simp; omega)
    rw [← snoc_app, lenS_snoc] at this
    exact this
theorem eqSt (l : List Stp) (h : l.length < 9223372036854775807) : Ev (fun k => laws_eqStepS.f k l l) true := by
  unfold laws_eqStepS.f
  simp only [if_true]
  exact eqSt_l0 l.length h l [] (by simp)
def markSt (m : Int) : Stp := ⟨m, m + 1, m + 2, markT (m + 3)⟩
def marksSt : Int → Nat → List Stp
  | _, 0 => []
  | m, n + 1 => markSt m :: marksSt (m + 4) n
theorem markStp_l0 (N : Nat) (hN : N < 1000000000000000000) (r : List Stp) : ∀ (p : List Stp) (m : Int), p.length + r.length = N → 0 ≤ m → m + 4 * r.length ≤ 4000000000000000000 →
    Ev (fun k => laws_markStepS.l0 k (p ++ r) m (p.length : Int)) (m + 4 * r.length, p ++ marksSt m r.length) := by
  induction r with
  | nil => intro p m h h0 h1; exact Ev.step (fun k => by rw [laws_markStepS.l0, if_neg (not_lt_end p)]) (by simpa [marksSt] using Ev.now _)
  | cons a r ih =>
    intro p m h h0 h1
    simp only [List.length_cons] at h h1
    refine Ev.step (fun k => by rw [laws_markStepS.l0, if_pos (lt_mid p a r), if_pos (by omega), next64 (by omega), wrap64_id (n := m + 1) (by omega) (by omega), wrap64_id (n := m + 1 + 1) (by omega) (by omega), wrap64_id (n := m + 1 + 1 + 1) (by omega) (by omega), wrap64_id (n := m + 1 + 1 + 1 + 1) (by omega) (by omega), rdSt_mid, set_mid]) ?_
    simp only [Option.bind_some, rdSt_mid, set_mid]
    refine Ev.bind (markText (m + 1 + 1 + 1) (by omega)) ?_
    have := ih (p ++ [markSt m]) (m + 4) (by simp; omega) (by omega) (by omega)
    rw [← snoc_app, lenS_snoc, List.append_assoc] at this
    rw [List.length_cons, marksSt, show m + 4 * ((r.length + 1 : Nat) : Int) = m + 4 + 4 * (r.length : Int) by omega]
    rw [show m + 1 + 1 + 1 + 1 = m + 4 by omega, show m + 1 + 1 + 1 = m + 3 by omega, show m + 1 + 1 = m + 2 by omega]
    exact this
theorem markStp (l : List Stp) (m : Int) (h : l.length < 1000000000000000000) (h0 : 0 ≤ m) (h1 : m + 4 * l.length ≤ 4000000000000000000) : Ev (fun k => laws_markStepS.f k l m) (m + 4 * l.length, marksSt m l.length) := by
  unfold laws_markStepS.f
  have := markStp_l0 l.length h l [] m (by simp) h0 h1
  exact this
theorem heldStp_l0 (N : Nat) (hN : N < 1000000000000000000) (n : Nat) : ∀ (p : List Stp) (m : Int), p.length + n = N → 0 ≤ m → m + 4 * n ≤ 4000000000000000000 →
    Ev (fun k => laws_heldStepS.l0 k (p ++ marksSt m n) m (p.length : Int)) (m + 4 * n) := by
  induction n with
  | zero => intro p m h h0 h1; rw [marksSt]; exact Ev.step (fun k => by rw [laws_heldStepS.l0, if_neg (not_lt_end p)]) (by simpa using Ev.now _)
  | succ n ih =>
    intro p m h h0 h1
    rw [marksSt]
    refine Ev.step (fun k => by rw [laws_heldStepS.l0, if_pos (lt_mid p _ _), if_pos (by omega), rdSt_mid, next64 (by omega), wrap64_id (n := m + 1) (by omega) (by omega), wrap64_id (n := m + 1 + 1) (by omega) (by omega), wrap64_id (n := m + 1 + 1 + 1) (by omega) (by omega), wrap64_id (n := m + 1 + 1 + 1 + 1) (by omega) (by omega), if_pos (show (markSt m).f0 = m from rfl), if_pos (show (markSt m).f1 = m + 1 from rfl), if_pos (show (markSt m).f2 = m + 1 + 1 by show m + 2 = _; omega)]) ?_
    refine Ev.bind (markText (m + 1 + 1 + 1) (by omega)) ?_
    simp only [if_pos (show ((markSt m).f3).toList = (markT (m + 1 + 1 + 1)).toList by show (markT (m + 3)).toList = _; rw [show m + 3 = m + 1 + 1 + 1 by omega])]
    have := ih (p ++ [markSt m]) (m + 4) (by simp; omega) (by omega) (by omega)
    rw [← snoc_app, lenS_snoc] at this
    rw [show m + 4 * ((n + 1 : Nat) : Int) = m + 4 + 4 * (n : Int) by omega, show m + 1 + 1 + 1 + 1 = m + 4 by omega]
    exact this
theorem heldStp (n : Nat) (m : Int) (h : n < 1000000000000000000) (h0 : 0 ≤ m) (h1 : m + 4 * n ≤ 4000000000000000000) : Ev (fun k => laws_heldStepS.f k (marksSt m n) m) (m + 4 * n) := by
  unfold laws_heldStepS.f
  exact heldStp_l0 n h n [] m (by simp) h0 h1
end Go.Proofs.Ytbihlagdcbdiaaa.Pure
namespace Go.Proofs.Ytbihlagdcbdiaaa.Pure
set_option linter.unusedVariables false
set_option linter.unusedSimpArgs false
open Go Go.RowKit Go.Proofs.Ytbihlagdcbdiaaa.Q Go.Proofs.Ytbihlagdcbdiaaa.Open Go.Proofs.YtbihlagdcbdiaaaW.PrintWords Go.Proofs.YtbihlagdcbdiaaaW.PrintLast Go.Proofs.YtbihlagdcbdiaaaW.PrintMore
theorem szStr3 (l : List ByteArray) (n : Int) (h0 : 0 ≤ n) (h1 : n ≤ 1048576) (hl : l.length ≤ 9223372036854775807) (hs : ∀ s ∈ l, s.size ≤ 9223372036854775807) : ∃ v, Ev (fun k => laws_szStringS.f k l n) v ∧ (¬ v < 0 → l.length ≤ 1048576) ∧ -1 ≤ v ∧ v ≤ 1048576 := by
  unfold laws_szStringS.f
  rw [wrap64_id (n := n - (l.length : Int)) (by omega) (by omega)]
  by_cases g : n - (l.length : Int) < 0
  · exact ⟨-1, by simp only [if_pos g]; exact Ev.now _, by omega, by omega, by omega⟩
  · obtain ⟨v, e, b0, b1⟩ := szStr_l0 l.length (by omega) l [] (n - (l.length : Int)) (by simp) (by omega) (by omega) hs
    exact ⟨v, by simp only [if_neg g]; exact e, by omega, b0, b1⟩
theorem FnExactStepsFor : ∀ (a b : List ByteArray), okList okStr a → okList okStr b → ∃ k, laws_FnExactStepsFor.f k a b = some true := by
  intro a b oka okb
  refine Ev.rounds ?_
  have hM : maxLen ≤ 9223372036854775807 := by decide
  unfold laws_FnExactStepsFor.f
  obtain ⟨v, e, hv, v0, v1⟩ := szStr3 a 1048576 (by omega) (by omega) (Nat.le_trans oka.1 hM) (fun s hs => Nat.le_trans (oka.2 s hs) hM)
  refine Ev.bind e ?_
  by_cases g : v < 0
  · simp only [if_pos g]; exact Ev.now _
  · have hla := hv g
    simp only [if_neg g]
    obtain ⟨v2, e2, hv2, _, _⟩ := szStr3 b v (by omega) v1 (Nat.le_trans okb.1 hM) (fun s hs => Nat.le_trans (okb.2 s hs) hM)
    refine Ev.bind e2 ?_
    by_cases g2 : v2 < 0
    · simp only [if_pos g2]; exact Ev.now _
    · have hlb := hv2 g2
      simp only [if_neg g2]
      have ta := toStr a (by omega)
      have tb := toStr b (by omega)
      have hi := implStepsFor a b (by omega) (by omega)
      have hs := specStepsFor a b
      have hR := forM_length a b
      refine Ev.bind ta (Ev.bind tb (Ev.bind hs (Ev.bind ta (Ev.bind tb (Ev.bind1 hi ?_)))))
      generalize forM a b = R at hi hs hR ⊢
      refine Ev.bind (eqSt R (by omega)) ?_
      simp only [if_true]
      refine Ev.bind ta (Ev.bind (eqStr a (by omega)) ?_)
      simp only [if_true]
      refine Ev.bind tb (Ev.bind (eqStr b (by omega)) ?_)
      simp only [if_true]
      refine Ev.bind (markStr a 1 (by omega) (by omega) (by omega)) (Ev.bind (markStr b (1 + a.length) (by omega) (by omega) (by omega)) ?_)
      simp only [if_neg (show ¬ (1 + (a.length : Int) + (b.length : Int)) < 0 by omega)]
      refine Ev.bind (eqSt R (by omega)) (Ev.step (fun k => by rw [laws_FnExactStepsFor.j0, if_neg (by decide)]) ?_)
      refine Ev.bind (markStp R 1 (by omega) (by omega) (by omega)) (Ev.bind (heldStp R.length 1 (by omega) (by omega) (by omega)) ?_)
      simp only [if_neg (show ¬ (1 + 4 * (R.length : Int)) < 0 by omega), if_true]
      refine Ev.bind ta (Ev.bind tb (Ev.bind1 hi (Ev.bind (eqSt R (by omega)) ?_)))
      simp only [if_true]
      refine Ev.bind (heldStp R.length 1 (by omega) (by omega) (by omega)) ?_
      simp only [if_neg (show ¬ (1 + 4 * (R.length : Int)) < 0 by omega), if_true]
      exact Ev.now _
end Go.Proofs.Ytbihlagdcbdiaaa.Pure
