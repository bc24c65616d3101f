/- Pure texts in one: The program's StepBytes and the reference's StepBytes return the same text, for every step. -/
import Derived.Test.YtholfbdbgginpaaKFnExactStepBytes0
import Derived.Test.YtholfbdbgginpaaKFnExactStepBytes1
import Derived.Test.YtholfbdbgginpaaKFnExactStepBytes2
import Derived.Test.YtholfbdbgginpaaKFnExactStepBytes3
import Derived.Test.YtholfbdbgginpaaWMore
import Derived.ProofKit
import Derived.WalkKit
import Derived.Deep.Slices
import Derived.DataReads
import Derived.Laws.BitsAllLaws
import Derived.Laws.Strings
namespace Go.Proofs.Ytholfbdbgginpaa.Open
set_option linter.unusedVariables false
set_option linter.unusedSimpArgs false
open Go Go.RowKit Go.Deep Go.Proofs.YtholfbdbgginpaaW.PrintWords Go.Proofs.YtholfbdbgginpaaW.PrintLast Go.Proofs.YtholfbdbgginpaaW.PrintMore
/-- Cells of type t that can be read as data are a value of the kind d, for which ok holds. -/
def Opens {α : Type} (d : Kd α) (ok : α → Prop) (P : Program) (t : TypeId) : Prop :=
  ∀ (H : Type) (enc : TypeId × Value → H) (W : World) (base : Nat) (spare : Nat → Bool) (held : Bool) (fuel : Nat) (cs : List Value) (x : DataW H × List MemPlace),
    DataW.trod enc P W base spare held fuel t cs = some x → ∃ a : α, d.K W a cs ∧ ok a
def okInt (k : IntKind) (n : Int) : Prop := (Lit.int k n).wf = true
def okStr (s : ByteArray) : Prop := s.size ≤ maxLen
theorem opens_int {P : Program} {t : TypeId} {k : IntKind} (ht : P.underlying t = some (.int k)) : Opens (Kd.int k) (okInt k) P t := by
  intro H enc W base spare held fuel cs x h
  obtain ⟨n, rfl, _, hw⟩ := DataW.trod_int ht h
  exact ⟨n, rfl, hw⟩
theorem opens_string {P : Program} {t : TypeId} (ht : P.underlying t = some .string) : Opens Kd.string okStr P t := by
  intro H enc W base spare held fuel cs x h
  obtain ⟨s, rfl, _, hw⟩ := DataW.trod_string ht h
  exact ⟨s, rfl, hw⟩
/-- The fields fs, the first at cell off, tell a value of the kind d. -/
def OpensFs {α : Type} (d : Kd α) (ok : α → Prop) (P : Program) (fs : List Field) (off : Nat) : Prop :=
  ∀ (H : Type) (enc : TypeId × Value → H) (W : World) (base : Nat) (spare : Nat → Bool) (held : Bool) (n : Nat) (cs : List Value), cs.length = off + d.sz →
    (∀ f, f ∈ fs → ∃ y, DataW.trod enc P W base spare held n f.type ((cs.drop f.offset).take (P.cellsOf f.type)) = some y) → ∃ a : α, d.K W a (cs.drop off) ∧ ok a
theorem opensFs_one {α : Type} {d : Kd α} {ok : α → Prop} {P : Program} {f : Field} {off : Nat} (ho : f.offset = off) (hc : P.cellsOf f.type = d.sz) (h : Opens d ok P f.type) : OpensFs d ok P [f] off := by
  intro H enc W base spare held n cs hl hf
  obtain ⟨y, hy⟩ := hf f (by simp)
  rw [ho, hc, List.take_of_length_le (by rw [List.length_drop]; omega)] at hy
  exact h H enc W base spare held n _ _ hy
theorem opensFs_cons {α β : Type} {a : Kd α} {b : Kd β} {oka : α → Prop} {okb : β → Prop} {P : Program} {f : Field} {fs : List Field} {off : Nat} (ho : f.offset = off) (hc : P.cellsOf f.type = a.sz) (h : Opens a oka P f.type) (hs : OpensFs b okb P fs (off + a.sz)) :
    OpensFs (Kd.pair a b) (fun x => oka x.1 ∧ okb x.2) P (f :: fs) off := by
  intro H enc W base spare held n cs hl hf
  have hsz : (Kd.pair a b).sz = a.sz + b.sz := rfl
  rw [hsz] at hl
  obtain ⟨y, hy⟩ := hf f (by simp)
  rw [ho, hc] at hy
  obtain ⟨p, hp, hpo⟩ := h H enc W base spare held n _ _ hy
  obtain ⟨q, hq, hqo⟩ := hs H enc W base spare held n cs (by omega) (fun g hg => hf g (by simp [hg]))
  refine ⟨(p, q), ⟨(cs.drop off).take a.sz, cs.drop (off + a.sz), ?_, hp, hq⟩, hpo, hqo⟩
  rw [← List.drop_drop, List.take_append_drop]
theorem opens_struct {α β : Type} {d : Kd α} {ok : α → Prop} {P : Program} {t : TypeId} {fs : Array Field} (f : β → α) (g : α → β) (hfg : ∀ a, f (g a) = a) (ht : P.underlying t = some (.struct fs)) (hc : P.cellsOf t = d.sz) (h : OpensFs d ok P fs.toList 0) : Opens (Kd.iso d f) (fun x => ok (f x)) P t := by
  intro H enc W base spare held fuel cs x hx
  obtain ⟨xs, n, _, rfl, hl, hlen, hf⟩ := DataW.trod_struct ht hx
  obtain ⟨a, ha, hok⟩ := h H enc W base spare held n cs (by omega) (fun f hf' => by
    obtain ⟨i, hi⟩ := List.getElem?_of_mem hf'
    have hi2 : fs[i]? = some f := by rw [← hi]; simp
    have := hf i f hi2
    have hil : i < xs.length := by rw [hlen]; exact (Array.getElem?_eq_some_iff.1 hi2).1
    rw [List.getElem?_eq_getElem hil] at this
    exact ⟨_, this⟩)
  exact ⟨g a, by show d.K W (f (g a)) cs; rw [hfg]; simpa using ha, by show ok (f (g a)); rw [hfg]; exact hok⟩
end Go.Proofs.Ytholfbdbgginpaa.Open
namespace Go.Proofs.Ytholfbdbgginpaa.Pure
set_option linter.unusedVariables false
set_option linter.unusedSimpArgs false
open Go Go.RowKit Go.Proofs.YtholfbdbgginpaaW.PrintWords Go.Proofs.YtholfbdbgginpaaW.PrintLast Go.Proofs.YtholfbdbgginpaaW.PrintMore
theorem wrap64_id {n : Int} (h0 : -9223372036854775808 ≤ n) (h1 : n ≤ 9223372036854775807) : wrap64 n = n := by
  unfold wrap64; omega
theorem i64_of_wf {n : Int} (h : (Lit.int .i64 n).wf = true) : -9223372036854775808 ≤ n ∧ n ≤ 9223372036854775807 := by
  simpa [Lit.wf, IntKind.min, IntKind.max, IntKind.signed, IntKind.bits] using h
theorem wrap_u64 (n : Int) : IntKind.u64.wrap n = n % 18446744073709551616 := by simp [IntKind.wrap, IntKind.bits, IntKind.signed]
theorem wrap_u64_id {n : Int} (h0 : 0 ≤ n) (h1 : n < 18446744073709551616) : IntKind.u64.wrap n = n := by rw [wrap_u64]; omega
theorem xor_ones (w a : Nat) (h : a < 2 ^ w) : (2 ^ w - 1) ^^^ a = 2 ^ w - 1 - a := by
  have e : (2 ^ w - 1) ^^^ a = (BitVec.allOnes w ^^^ BitVec.ofNat w a).toNat := by
    rw [BitVec.toNat_xor, BitVec.toNat_allOnes, BitVec.toNat_ofNat, Nat.mod_eq_of_lt h]
  rw [e, BitVec.allOnes_xor, BitVec.toNat_not, BitVec.toNat_ofNat, Nat.mod_eq_of_lt h]
theorem not_u64 {a : Int} (h0 : 0 ≤ a) (h1 : a < 18446744073709551616) : Go.bits .xor .u64 18446744073709551615 a = 18446744073709551615 - a := by
  obtain ⟨n, rfl⟩ := Int.eq_ofNat_of_zero_le h0
  have h : n < 2 ^ 64 := by omega
  have e := u64_xor_nat 18446744073709551615 n (by omega) (by omega)
  have e2 := xor_ones 64 n h
  simp only [Nat.reducePow, Nat.reduceSub] at e2
  rw [e2] at e
  rw [show ((18446744073709551615 : Int)) = ((18446744073709551615 : Nat) : Int) from rfl, e]
  omega
theorem toList_data (s : ByteArray) : s.toList = s.data.toList := ByteArray.toList_eq s
theorem toList_inj {a b : ByteArray} (h : a.toList = b.toList) : a = b := by
  rw [toList_data, toList_data] at h
  cases a; cases b
  simpa using h
theorem Ev.const {α : Type} {g : Option α} {r : α} (h : g = some r) : Ev (fun _ => g) r := ⟨0, fun _ _ => h⟩
/-- One is known without rounds. -/
theorem Ev.bind1 {α β : Type} {g : Option α} {f : Nat → α → Option β} {a : α} {r : β} (h : g = some a) (k : Ev (fun n => f n a) r) : Ev (fun n => g.bind (f n)) r := by
  subst h
  exact k
end Go.Proofs.Ytholfbdbgginpaa.Pure
namespace Go.Proofs.Ytholfbdbgginpaa.Pure
set_option linter.unusedVariables false
set_option linter.unusedSimpArgs false
open Go Go.RowKit Go.Proofs.Ytholfbdbgginpaa.Q Go.Proofs.YtholfbdbgginpaaW.PrintWords Go.Proofs.YtholfbdbgginpaaW.PrintLast Go.Proofs.YtholfbdbgginpaaW.PrintMore
theorem within_eq (a b c : Int) : impl_within.f a b c = some (decide (b ≤ a ∧ a ≤ c)) := by
  unfold impl_within.f
  by_cases h : a ≥ b
  · rw [if_pos h]; congr 1; rw [Bool.eq_iff_iff]; simp; omega
  · rw [if_neg h]; congr 1; simp; omega
theorem l03Is_eq (a b c : Int) : spec_l03Is.f a b c = some (decide (b ≤ a ∧ a ≤ c)) := by
  unfold spec_l03Is.f
  by_cases h : a ≥ b
  · rw [if_pos h]; congr 1; rw [Bool.eq_iff_iff]; simp; omega
  · rw [if_neg h]; congr 1; simp; omega
end Go.Proofs.Ytholfbdbgginpaa.Pure
namespace Go.Proofs.Ytholfbdbgginpaa.Pure
set_option linter.unusedVariables false
set_option linter.unusedSimpArgs false
open Go Go.RowKit Go.Proofs.Ytholfbdbgginpaa.Q Go.Proofs.YtholfbdbgginpaaW.PrintWords Go.Proofs.YtholfbdbgginpaaW.PrintLast Go.Proofs.YtholfbdbgginpaaW.PrintMore
def emp (d : ByteArray) : Bool := d.toList == ([] : List UInt8)
def e8 (d : ByteArray) : Bool := (d.size : Int) == 8
def inr (x hi : Int) : Bool := decide (0 ≤ x ∧ x ≤ hi)
def stepM (k b c : Int) (d : ByteArray) (n : Int) : Bool :=
  if k = 1 then inr b (n - 1) && (c == 0) && emp d
  else if k = 2 then inr b (n - 1) && (c == 0) && e8 d
  else if k = 3 then inr b (n - 1) && inr c (n - 1) && emp d
  else if k = 4 then inr b (n - 1) && inr c (n - 1) && e8 d
  else if k = 5 then (b == 0) && inr c 1000000 && emp d
  else false
theorem specStep (k b c : Int) (d : ByteArray) (n : Int) (h : 1 ≤ n ∧ n ≤ 8) : spec_StepRight.f k b c d n = some (stepM k b c d n) := by
  unfold spec_StepRight.f stepM inr emp e8
  rw [wrap64_id (n := n - 1) (by omega) (by omega)]
  simp only [l03Is_eq, Option.bind_some, decide_eq_true h, if_true]
  generalize decide (0 ≤ b ∧ b ≤ n - 1) = t1
  generalize decide (0 ≤ c ∧ c ≤ n - 1) = t2
  generalize decide (0 ≤ c ∧ c ≤ 1000000) = t3
  generalize (d.toList == ([] : List UInt8)) = t4
  generalize ((d.size : Int) == 8) = t5
  have q : ∀ x y : Int, (x == y) = decide (x = y) := fun x y => by rw [Bool.eq_iff_iff]; simp
  by_cases k1 : k = 1
  · simp only [if_pos k1, q]; by_cases hc : c = 0 <;> cases t1 <;> simp [hc]
  · simp only [if_neg k1]
    by_cases k2 : k = 2
    · simp only [if_pos k2, q]; by_cases hc : c = 0 <;> cases t1 <;> simp [hc]
    · simp only [if_neg k2]
      by_cases k3 : k = 3
      · simp only [if_pos k3]; cases t1 <;> cases t2 <;> simp
      · simp only [if_neg k3]
        by_cases k4 : k = 4
        · simp only [if_pos k4]; cases t1 <;> cases t2 <;> simp
        · simp only [if_neg k4]
          by_cases k5 : k = 5
          · simp only [if_pos k5, q]; by_cases hb : b = 0 <;> cases t3 <;> simp [hb]
          · simp only [if_neg k5]
def j3M (k b c : Int) (x5 x6 x7 : Bool) : Bool := if k = 5 then (b == 0) && inr c 1000000 && x7 else decide (1 ≤ k ∧ k ≤ 5) && x5 && x6 && x7
theorem isStep_j3 (k b c : Int) (d : ByteArray) (x5 x6 x7 : Bool) : Ev (fun m => impl_isStep.j3 m x5 x6 x7 k b c d) (j3M k b c x5 x6 x7) := by
  refine Ev.step (fun m => by rw [impl_isStep.j3, impl_isTime.f, within_eq, within_eq]) ?_
  simp only [Option.bind_some]
  unfold j3M inr
  generalize decide (0 ≤ c ∧ c ≤ 1000000) = t3
  by_cases k5 : k = 5
  · simp only [if_pos k5, decide_eq_true (show 1 ≤ k ∧ k ≤ 5 by omega), if_true]
    by_cases hb : b = 0
    · cases t3
      · simp only [if_pos hb, Bool.false_eq_true, if_false, Bool.and_false, Bool.false_and]; exact Ev.now _
      · simp only [if_pos hb, if_true, hb, beq_self_eq_true, Bool.true_and]; exact Ev.now _
    · simp only [if_neg hb, show (b == 0) = false from beq_eq_false_iff_ne.2 hb, Bool.false_and]; exact Ev.now _
  · simp only [if_neg k5]
    generalize decide (1 ≤ k ∧ k ≤ 5) = t1
    cases t1
    · simp only [Bool.false_eq_true, if_false, Bool.false_and]; exact Ev.now _
    · cases x5
      · simp only [Bool.false_eq_true, if_false, if_true, Bool.false_and, Bool.true_and]; exact Ev.now _
      · cases x6
        · simp only [Bool.false_eq_true, if_false, if_true, Bool.false_and, Bool.true_and]; exact Ev.now _
        · simp only [if_true, Bool.true_and]; exact Ev.now _
theorem isStep_j2 (k b c : Int) (d : ByteArray) (x5 x6 x7 x39 : Bool) : Ev (fun m => impl_isStep.j2 m x5 x6 x7 x39 k b c d) (j3M k b c x5 x6 (if x39 = true then e8 d else x7)) := by
  refine Ev.step (fun m => by rw [impl_isStep.j2]) ?_
  by_cases h : x39 = true
  · simp only [if_pos h]; exact isStep_j3 k b c d x5 x6 _
  · simp only [if_neg h]; exact isStep_j3 k b c d x5 x6 x7
theorem isStep_j1 (k b c : Int) (d : ByteArray) (x5 x6 x7 : Bool) : Ev (fun m => impl_isStep.j1 m x5 x6 x7 k b c d) (j3M k b c x5 x6 (if k = 2 ∨ k = 4 then e8 d else x7)) := by
  refine Ev.step (fun m => by rw [impl_isStep.j1]) ?_
  by_cases h : k = 2
  · simp only [if_pos h, if_pos (show k = 2 ∨ k = 4 from .inl h)]
    have := isStep_j2 k b c d x5 x6 x7 true
    simpa using this
  · simp only [if_neg h]
    have := isStep_j2 k b c d x5 x6 x7 (k == 4)
    by_cases h4 : k = 4
    · rw [if_pos (.inr h4)]; rw [if_pos (by simp [h4])] at this; exact this
    · rw [if_neg (by omega)]; rw [if_neg (by simp [h4])] at this; exact this
theorem isStep_j0 (k b c : Int) (d : ByteArray) (n : Int) (h : 1 ≤ n ∧ n ≤ 8) (x5 x6 x7 x26 : Bool) : Ev (fun m => impl_isStep.j0 m n x5 x6 x7 x26 k b c d) (j3M k b c x5 (if x26 = true then inr c (n - 1) else x6) (if k = 2 ∨ k = 4 then e8 d else x7)) := by
  refine Ev.step (fun m => by rw [impl_isStep.j0, wrap64_id (n := n - 1) (by omega) (by omega), within_eq]) ?_
  by_cases h : x26 = true
  · simp only [if_pos h, Option.bind_some]; exact isStep_j1 k b c d x5 _ x7
  · simp only [if_neg h]; exact isStep_j1 k b c d x5 x6 x7
theorem implStep (k b c : Int) (d : ByteArray) (n : Int) (h : 1 ≤ n ∧ n ≤ 8) : Ev (fun m => impl_isStep.f m k b c d n) (stepM k b c d n) := by
  have key : Ev (fun m => impl_isStep.j0 m n (inr b (n - 1)) (c == 0) (emp d) (decide (k = 3 ∨ k = 4)) k b c d) (stepM k b c d n) := by
    have := isStep_j0 k b c d n h (inr b (n - 1)) (c == 0) (emp d) (decide (k = 3 ∨ k = 4))
    have e : j3M k b c (inr b (n - 1)) (if decide (k = 3 ∨ k = 4) = true then inr c (n - 1) else (c == 0)) (if k = 2 ∨ k = 4 then e8 d else emp d) = stepM k b c d n := by
      unfold j3M stepM
      by_cases k1 : k = 1
      · subst k1; simp
      · by_cases k2 : k = 2
        · subst k2; simp
        · by_cases k3 : k = 3
          · subst k3; simp
          · by_cases k4 : k = 4
            · subst k4; simp
            · by_cases k5 : k = 5
              · subst k5; simp
              · rw [if_neg k5, if_neg k1, if_neg k2, if_neg k3, if_neg k4, if_neg k5, decide_eq_false (show ¬ (1 ≤ k ∧ k ≤ 5) by omega)]; simp
    rw [e] at this
    exact this
  unfold impl_isStep.f
  rw [wrap64_id (n := n - 1) (by omega) (by omega), within_eq]
  simp only [Option.bind_some]
  by_cases k3 : k = 3
  · simp only [if_pos k3]
    rw [decide_eq_true (show k = 3 ∨ k = 4 from .inl k3)] at key
    exact key
  · simp only [if_neg k3]
    rw [show decide (k = 3 ∨ k = 4) = (k == 4) by rw [Bool.eq_iff_iff]; simp [k3]] at key
    exact key
end Go.Proofs.Ytholfbdbgginpaa.Pure
namespace Go.Proofs.Ytholfbdbgginpaa.Pure
set_option linter.unusedVariables false
set_option linter.unusedSimpArgs false
open Go Go.RowKit Go.Proofs.Ytholfbdbgginpaa.Q Go.Proofs.YtholfbdbgginpaaW.PrintWords Go.Proofs.YtholfbdbgginpaaW.PrintLast Go.Proofs.YtholfbdbgginpaaW.PrintMore

def zig (n : Int) : Nat := if n < 0 then (-2 * n - 1).toNat else (2 * n).toNat
def putU (u : Nat) : List Int := if u < 128 then [(u : Int)] else ((u % 128 + 128 : Nat) : Int) :: putU (u / 128)
termination_by u
decreasing_by omega
def putN (n : Int) : ByteArray := strOfNums (putU (zig n))

theorem zig_lt {n : Int} (h : (Lit.int .i64 n).wf = true) : zig n < 18446744073709551616 := by
  obtain ⟨h0, h1⟩ := i64_of_wf h
  unfold zig; split <;> omega
theorem putU_small {u : Nat} (h : u < 128) : putU u = [(u : Int)] := by rw [putU, if_pos h]
theorem putU_big {u : Nat} (h : ¬ u < 128) : putU u = ((u % 128 + 128 : Nat) : Int) :: putU (u / 128) := by rw [putU, if_neg h]
theorem putU_length (n : Nat) : ∀ u, u < 128 ^ (n + 1) → 1 ≤ (putU u).length ∧ (putU u).length ≤ n + 1 := by
  induction n with
  | zero => intro u h; rw [putU_small (by simpa using h)]; simp
  | succ n ih =>
    intro u h
    by_cases hu : u < 128
    · rw [putU_small hu]; simp
    · rw [putU_big hu]
      have := ih (u / 128) (by rw [Nat.pow_succ] at h; omega)
      simp only [List.length_cons]; omega

theorem specFold {n : Int} (h : (Lit.int .i64 n).wf = true) : spec_l01Fold.f n = some (zig n : Int) := by
  obtain ⟨h0, h1⟩ := i64_of_wf h
  unfold spec_l01Fold.f zig
  by_cases hn : n < 0
  · rw [if_pos hn, if_pos hn, wrap64_id (n := n + 1) (by omega) (by omega), wrap64_id (by omega) (by omega), wrap_u64_id (n := -(n + 1)) (by omega) (by omega), wrap_u64_id (n := 2 * _) (by omega) (by omega), wrap_u64_id (by omega) (by omega)]
    congr 1; omega
  · rw [if_neg hn, if_neg hn, wrap_u64_id (n := n) (by omega) (by omega), wrap_u64_id (by omega) (by omega)]
    congr 1; omega

theorem specPut_l0 (n : Nat) : ∀ (u : Nat) (acc : List Int), u < 128 ^ n → u < 18446744073709551616 → acc.length + n < 140737488355328 →
    Ev (fun k => spec_PutNum.l0 k (u : Int) acc) (strOfNums (acc ++ putU u)) := by
  induction n with
  | zero =>
    intro u acc h h64 hl
    have hu : u < 128 := by simp at h; omega
    refine Ev.step (fun k => by rw [spec_PutNum.l0]) ?_
    simp only [if_neg (show ¬ ((u : Int) ≥ 128) by omega), if_pos (show acc.length < 140737488355328 by omega)]
    refine Ev.const ?_
    rw [putU_small hu, Int.emod_eq_of_lt (by omega) (by omega)]
  | succ n ih =>
    intro u acc h h64 hl
    refine Ev.step (fun k => by rw [spec_PutNum.l0]) ?_
    by_cases hu : u < 128
    · simp only [if_neg (show ¬ ((u : Int) ≥ 128) by omega), if_pos (show acc.length < 140737488355328 by omega)]
      refine Ev.const ?_
      rw [putU_small hu, Int.emod_eq_of_lt (by omega) (by omega)]
    · simp only [if_pos (show ((u : Int) ≥ 128) by omega), if_pos (show acc.length < 140737488355328 by omega)]
      have e1 : IntKind.u64.wrap (Int.tdiv (u : Int) 128) = ((u / 128 : Nat) : Int) := by
        rw [Int.tdiv_eq_ediv_of_nonneg (by omega), wrap_u64_id (by omega) (by omega)]; omega
      have e2 : (IntKind.u64.wrap ((Int.tmod (u : Int) 128) + 128)) % 256 = ((u % 128 + 128 : Nat) : Int) := by
        rw [Int.tmod_eq_emod_of_nonneg (by omega), wrap_u64_id (by omega) (by omega)]; omega
      simp only [e1, e2]
      have := ih (u / 128) (acc ++ [((u % 128 + 128 : Nat) : Int)]) (by rw [Nat.pow_succ] at h; omega) (by omega) (by simp; omega)
      rw [List.append_assoc] at this
      rw [putU_big hu]
      exact this
theorem lt_pow10 {u : Nat} (h : u < 18446744073709551616) : u < 128 ^ 10 := by
  have : (128 : Nat) ^ 10 = 1180591620717411303424 := by decide
  omega
theorem specPut {n : Int} (h : (Lit.int .i64 n).wf = true) : Ev (fun k => spec_PutNum.f k n) (putN n) := by
  unfold spec_PutNum.f
  refine Ev.bind1 (specFold h) ?_
  have := specPut_l0 10 (zig n) [] (lt_pow10 (zig_lt h)) (zig_lt h) (by simp)
  simpa [putN] using this

theorem or128 {u : Nat} : Go.bits .or .u8 ((u : Int) % 256) 128 = ((u % 128 + 128 : Nat) : Int) := by
  rw [u8_or _ _ (by omega) (by omega) (by omega) (by omega)]
  have e : ((u : Int) % 256).toNat = u % 256 := by omega
  have e1 : (128 : Int).toNat = 128 := rfl
  rw [e, e1]
  congr 1
  have hb : ∀ v : Fin 256, v.val ||| 128 = v.val % 128 + 128 := by decide +kernel
  have := hb ⟨u % 256, by omega⟩
  simp only at this
  rw [this]; omega
theorem implPut_l0 (n : Nat) : ∀ (u : Nat) (acc : List Int), u < 128 ^ n → u < 18446744073709551616 → acc.length + n < 140737488355328 →
    Ev (fun k => impl_putNum.l0 k (u : Int) acc) (strOfNums (acc ++ putU u)) := by
  induction n with
  | zero =>
    intro u acc h h64 hl
    have hu : u < 128 := by simp at h; omega
    refine Ev.step (fun k => by rw [impl_putNum.l0]) ?_
    simp only [if_neg (show ¬ ((u : Int) > 127) by omega), if_pos (show acc.length < 140737488355328 by omega)]
    refine Ev.const ?_
    rw [putU_small hu, Int.emod_eq_of_lt (by omega) (by omega)]
  | succ n ih =>
    intro u acc h h64 hl
    refine Ev.step (fun k => by rw [impl_putNum.l0]) ?_
    by_cases hu : u < 128
    · simp only [if_neg (show ¬ ((u : Int) > 127) by omega), if_pos (show acc.length < 140737488355328 by omega)]
      refine Ev.const ?_
      rw [putU_small hu, Int.emod_eq_of_lt (by omega) (by omega)]
    · simp only [if_pos (show ((u : Int) > 127) by omega), if_pos (show acc.length < 140737488355328 by omega)]
      have e1 : (u : Int) / 128 = ((u / 128 : Nat) : Int) := by omega
      simp only [e1, or128]
      have := ih (u / 128) (acc ++ [((u % 128 + 128 : Nat) : Int)]) (by rw [Nat.pow_succ] at h; omega) (by omega) (by simp; omega)
      rw [List.append_assoc] at this
      rw [putU_big hu]
      exact this
theorem implFold_neg {n : Int} (h : (Lit.int .i64 n).wf = true) (hn : n < 0) : Go.bits .xor .u64 18446744073709551615 (IntKind.u64.wrap ((IntKind.u64.wrap n) * 2)) = (zig n : Int) := by
  obtain ⟨h0, h1⟩ := i64_of_wf h
  have e : IntKind.u64.wrap ((IntKind.u64.wrap n) * 2) = 2 * n + 18446744073709551616 := by rw [wrap_u64, wrap_u64]; omega
  rw [e, not_u64 (by omega) (by omega)]
  unfold zig; rw [if_pos hn]; omega
theorem implFold_pos {n : Int} (h : (Lit.int .i64 n).wf = true) (hn : ¬ n < 0) : IntKind.u64.wrap ((IntKind.u64.wrap n) * 2) = (zig n : Int) := by
  obtain ⟨h0, h1⟩ := i64_of_wf h
  rw [wrap_u64, wrap_u64]
  unfold zig; rw [if_neg hn]; omega
theorem implPut {n : Int} (h : (Lit.int .i64 n).wf = true) : Ev (fun k => impl_putNum.f k n) (putN n) := by
  unfold impl_putNum.f
  have base : Ev (fun k => impl_putNum.j0 k (zig n : Int)) (putN n) := by
    refine Ev.step (fun k => by rw [impl_putNum.j0]) ?_
    have := implPut_l0 10 (zig n) [] (lt_pow10 (zig_lt h)) (zig_lt h) (by simp)
    simpa [putN] using this
  by_cases hn : n < 0
  · simp only [if_pos hn, implFold_neg h hn]; exact base
  · simp only [if_neg hn, implFold_pos h hn]; exact base
theorem putN_size {n : Int} (h : (Lit.int .i64 n).wf = true) : 1 ≤ (putN n).size ∧ (putN n).size ≤ 10 := by
  unfold putN; rw [strOfNums_size]; exact putU_length 9 _ (lt_pow10 (zig_lt h))
end Go.Proofs.Ytholfbdbgginpaa.Pure
namespace Go.Proofs.Ytholfbdbgginpaa.Pure
set_option linter.unusedVariables false
set_option linter.unusedSimpArgs false
open Go Go.RowKit Go.Proofs.Ytholfbdbgginpaa.Q Go.Proofs.YtholfbdbgginpaaW.PrintWords Go.Proofs.YtholfbdbgginpaaW.PrintLast Go.Proofs.YtholfbdbgginpaaW.PrintMore
def stepB (k b c : Int) (d : ByteArray) : ByteArray := ((putN k ++ putN b) ++ putN c) ++ (putN d.size ++ d)
theorem nil_append' (a : ByteArray) : (⟨#[]⟩ : ByteArray) ++ a = a := toList_inj (by rw [toList_data, toList_data, ByteArray.data_append, Array.toList_append, List.nil_append])
theorem wf_size {d : ByteArray} (h : d.size ≤ 8000) : (Lit.int .i64 (d.size : Int)).wf = true := by simp [Lit.wf, IntKind.min, IntKind.max, IntKind.signed, IntKind.bits]; omega
theorem implPutNums (k b c : Int) (hk : (Lit.int .i64 k).wf = true) (hb : (Lit.int .i64 b).wf = true) (hc : (Lit.int .i64 c).wf = true) : Ev (fun m => impl_putNums.f m [k, b, c]) ((putN k ++ putN b) ++ putN c) := by
  unfold impl_putNums.f
  have z1 := putN_size hk
  have z2 := putN_size hb
  have z3 := putN_size hc
  have z4 : (putN k ++ putN b).size = (putN k).size + (putN b).size := ByteArray.size_append
  have w1 : wrap64 ((0 : Int) + 1) = 1 := by rw [wrap64_id (by omega) (by omega)]; rfl
  have w2 : wrap64 ((1 : Int) + 1) = 2 := by rw [wrap64_id (by omega) (by omega)]; rfl
  have w3 : wrap64 ((2 : Int) + 1) = 3 := by rw [wrap64_id (by omega) (by omega)]; rfl
  have r1 : rd [k, b, c] 0 = k := rfl
  have r2 : rd [k, b, c] 1 = b := rfl
  have r3 : rd [k, b, c] 2 = c := rfl
  have l : (([k, b, c] : List Int).length : Int) = 3 := rfl
  have e0 : (⟨#[]⟩ : ByteArray).size = 0 := rfl
  rw [l]
  refine Ev.step (fun m => by rw [impl_putNums.l0, l, if_pos (by decide), if_pos (by decide), if_pos (by decide), r1, w1]) (Ev.bind (implPut hk) ?_)
  simp only [e0, if_pos (show 0 + (putN k).size ≤ 9223372036854775807 by omega), nil_append']
  refine Ev.step (fun m => by rw [impl_putNums.l0, l, if_pos (by decide), if_pos (by decide), if_pos (by decide), r2, w2]) (Ev.bind (implPut hb) ?_)
  simp only [if_pos (show (putN k).size + (putN b).size ≤ 9223372036854775807 by omega)]
  refine Ev.step (fun m => by rw [impl_putNums.l0, l, if_pos (by decide), if_pos (by decide), if_pos (by decide), r3, w3]) (Ev.bind (implPut hc) ?_)
  simp only [if_pos (show (putN k ++ putN b).size + (putN c).size ≤ 9223372036854775807 by omega)]
  exact Ev.step (fun m => by rw [impl_putNums.l0, if_neg (by decide)]) (Ev.now _)
theorem implStepB (k b c : Int) (d : ByteArray) (hk : (Lit.int .i64 k).wf = true) (hb : (Lit.int .i64 b).wf = true) (hc : (Lit.int .i64 c).wf = true) (hd : d.size ≤ 8000) : Ev (fun m => impl_stepBytes.f m k b c d) (stepB k b c d) := by
  unfold impl_stepBytes.f stepB
  have z1 := putN_size hk
  have z2 := putN_size hb
  have z3 := putN_size hc
  have z5 := putN_size (wf_size hd)
  have z4 : ((putN k ++ putN b) ++ putN c).size = (putN k).size + (putN b).size + (putN c).size := by rw [ByteArray.size_append, ByteArray.size_append]
  have z6 : (putN d.size ++ d).size = (putN d.size).size + d.size := ByteArray.size_append
  refine Ev.bind (implPutNums k b c hk hb hc) (Ev.bind (a := putN d.size ++ d) ?_ ?_)
  · unfold impl_putText.f
    exact Ev.bind (implPut (wf_size hd)) (Ev.const (if_pos (by omega)))
  · exact Ev.const (if_pos (by omega))
theorem specStepB (k b c : Int) (d : ByteArray) (hk : (Lit.int .i64 k).wf = true) (hb : (Lit.int .i64 b).wf = true) (hc : (Lit.int .i64 c).wf = true) (hd : d.size ≤ 8000) : Ev (fun m => spec_l06Bytes.f m k b c d) (stepB k b c d) := by
  unfold spec_l06Bytes.f stepB
  have z1 := putN_size hk
  have z2 := putN_size hb
  have z3 := putN_size hc
  have z5 := putN_size (wf_size hd)
  have z7 : (putN k ++ putN b).size = (putN k).size + (putN b).size := ByteArray.size_append
  have z4 : ((putN k ++ putN b) ++ putN c).size = (putN k).size + (putN b).size + (putN c).size := by rw [ByteArray.size_append, ByteArray.size_append]
  have z6 : (putN d.size ++ d).size = (putN d.size).size + d.size := ByteArray.size_append
  refine Ev.bind (specPut hk) (Ev.bind (specPut hb) ?_)
  simp only [if_pos (show (putN k).size + (putN b).size ≤ 9223372036854775807 by omega)]
  refine Ev.bind (specPut hc) ?_
  simp only [if_pos (show (putN k ++ putN b).size + (putN c).size ≤ 9223372036854775807 by omega)]
  refine Ev.bind (a := putN d.size ++ d) ?_ ?_
  · unfold spec_PutText.f
    simp only [if_neg (show ¬ (d.size : Int) > 8000 by omega)]
    exact Ev.bind (specPut (wf_size hd)) (Ev.const (if_pos (by omega)))
  · exact Ev.const (if_pos (by omega))
theorem stepM_size {k b c : Int} {d : ByteArray} {n : Int} (h : stepM k b c d n = true) : d.size ≤ 8 := by
  have he : emp d = true → d.size = 0 := by
    intro h
    unfold emp at h
    rw [beq_iff_eq, toList_data] at h
    have := congrArg List.length h
    rw [Array.length_toList] at this
    exact this
  have h8 : e8 d = true → d.size = 8 := by
    intro h
    unfold e8 at h
    rw [beq_iff_eq] at h
    omega
  unfold stepM at h
  have key : emp d = true ∨ e8 d = true := by
    split at h
    · exact .inl (Bool.and_eq_true _ _ ▸ h).2
    · split at h
      · exact .inr (Bool.and_eq_true _ _ ▸ h).2
      · split at h
        · exact .inl (Bool.and_eq_true _ _ ▸ h).2
        · split at h
          · exact .inr (Bool.and_eq_true _ _ ▸ h).2
          · split at h
            · exact .inl (Bool.and_eq_true _ _ ▸ h).2
            · exact absurd h (by decide)
  rcases key with h1 | h1
  · have := he h1; omega
  · have := h8 h1; omega
end Go.Proofs.Ytholfbdbgginpaa.Pure
namespace Go.Proofs.Ytholfbdbgginpaa.Pure
set_option linter.unusedVariables false
set_option linter.unusedSimpArgs false
open Go Go.RowKit Go.Proofs.Ytholfbdbgginpaa.Q Go.Proofs.Ytholfbdbgginpaa.Open Go.Proofs.YtholfbdbgginpaaW.PrintWords Go.Proofs.YtholfbdbgginpaaW.PrintLast Go.Proofs.YtholfbdbgginpaaW.PrintMore
theorem FnExactStepBytes : ∀ (k b c : Int) (d : ByteArray), (okInt .i64 k ∧ okInt .i64 b ∧ okInt .i64 c ∧ okStr d) → ∃ m, laws_FnExactStepBytes.f m k b c d = some true := by
  intro k b c d ok
  refine Ev.rounds ?_
  obtain ⟨hk, hb, hc, hd0⟩ := ok
  have hd : d.size ≤ 9223372036854775807 := Nat.le_trans hd0 (by decide)
  unfold laws_FnExactStepBytes.f laws_szStep.f laws_toStep.f
  rw [wrap64_id (n := 1048576 - (d.size : Int)) (by omega) (by omega)]
  by_cases g : 1048576 - (d.size : Int) < 0
  · simp only [if_pos g, Option.bind_some, show (-1 : Int) < 0 by decide, if_true]; exact Ev.now _
  · simp only [if_neg g, Option.bind_some]
    refine Ev.bind (a := if stepM k b c d 8 = true then stepB k b c d else ⟨#[]⟩) ?_ (Ev.bind (a := if stepM k b c d 8 = true then stepB k b c d else ⟨#[]⟩) ?_ ?_)
    · unfold spec_StepBytes.f
      rw [specStep k b c d 8 (by omega)]
      simp only [Option.bind_some]
      by_cases h : stepM k b c d 8 = true
      · have := stepM_size h
        simp only [if_pos h]; exact Ev.bind (specStepB k b c d hk hb hc (by omega)) (Ev.now _)
      · simp only [if_neg h]; exact Ev.now _
    · unfold impl_StepBytes.f
      refine Ev.bind (implStep k b c d 8 (by omega)) ?_
      by_cases h : stepM k b c d 8 = true
      · have := stepM_size h
        simp only [if_pos h]; exact Ev.bind (implStepB k b c d hk hb hc (by omega)) (Ev.now _)
      · simp only [if_neg h]; exact Ev.now _
    · simp only [if_true]; exact Ev.now _
end Go.Proofs.Ytholfbdbgginpaa.Pure
