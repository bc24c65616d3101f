/- Pure texts in one: The program's ImageApply and the reference's ImageApply return the same, for every image and list of steps; both stay as they were, the result is new memory. -/
import Derived.Test.YtholfbdbgginpaaKFnExactImageApply0
import Derived.Test.YtholfbdbgginpaaKFnExactImageApply1
import Derived.Test.YtholfbdbgginpaaKFnExactImageApply2
import Derived.Test.YtholfbdbgginpaaKFnExactImageApply3
import Derived.Test.YtholfbdbgginpaaKFnExactImageApply4
import Derived.Test.YtholfbdbgginpaaKFnExactImageApply5
import Derived.Test.YtholfbdbgginpaaKFnExactImageApply6
import Derived.Test.YtholfbdbgginpaaKFnExactImageApply7
import Derived.Test.YtholfbdbgginpaaWMore
import Derived.ProofKit
import Derived.WalkKit
import Derived.Deep.Slices
import Derived.DataReads
import Derived.Laws.BitsAllLaws
import Derived.Laws.Strings
namespace Go.Proofs.Ytholfbdbgginpaa.Open
set_option linter.unusedVariables false
set_option linter.unusedSimpArgs false
open Go Go.RowKit Go.Deep Go.Proofs.YtholfbdbgginpaaW.PrintWords Go.Proofs.YtholfbdbgginpaaW.PrintLast Go.Proofs.YtholfbdbgginpaaW.PrintMore
/-- Cells of type t that can be read as data are a value of the kind d, for which ok holds. -/
def Opens {α : Type} (d : Kd α) (ok : α → Prop) (P : Program) (t : TypeId) : Prop :=
  ∀ (H : Type) (enc : TypeId × Value → H) (W : World) (base : Nat) (spare : Nat → Bool) (held : Bool) (fuel : Nat) (cs : List Value) (x : DataW H × List MemPlace),
    DataW.trod enc P W base spare held fuel t cs = some x → ∃ a : α, d.K W a cs ∧ ok a
def okInt (k : IntKind) (n : Int) : Prop := (Lit.int k n).wf = true
def okStr (s : ByteArray) : Prop := s.size ≤ maxLen
def okList {α : Type} (ok : α → Prop) (l : List α) : Prop := l.length ≤ maxLen ∧ ∀ a ∈ l, ok a
theorem opens_int {P : Program} {t : TypeId} {k : IntKind} (ht : P.underlying t = some (.int k)) : Opens (Kd.int k) (okInt k) P t := by
  intro H enc W base spare held fuel cs x h
  obtain ⟨n, rfl, _, hw⟩ := DataW.trod_int ht h
  exact ⟨n, rfl, hw⟩
theorem opens_string {P : Program} {t : TypeId} (ht : P.underlying t = some .string) : Opens Kd.string okStr P t := by
  intro H enc W base spare held fuel cs x h
  obtain ⟨s, rfl, _, hw⟩ := DataW.trod_string ht h
  exact ⟨s, rfl, hw⟩
theorem cells_at {w : World} {base : Nat} {a : Addr} {n : Nat} {cs : List Value} (h : w.cells? base a n = some cs) : cs.length = n ∧ ∀ i u, cs[i]? = some u → w.cell? (a.add i) = some u := by
  unfold World.cells? at h
  split at h
  · have hl : cs.length = n := by simpa using mapM_some_length h
    refine ⟨hl, fun i u hi => ?_⟩
    have hil : i < cs.length := (List.getElem?_eq_some_iff.1 hi).1
    have := mapM_some_get h i i (by rw [List.getElem?_range (by omega)])
    rw [this, hi]
  · cases h
theorem opens_slice {α : Type} {d : Kd α} {ok : α → Prop} {P : Program} {t e : TypeId} (z : α) (ht : P.underlying t = some (.slice e)) (hc : P.cellsOf e = d.sz) (he : Opens d ok P e) : Opens (Kd.slice e d) (okList ok) P t := by
  intro H enc W base spare held fuel cs x h
  rcases open_slice ht h with ⟨rfl, _⟩ | ⟨a, len, cap, m, n, D, Pl, rfl, _, hl, hm, hmeq, _, hel⟩
  · exact ⟨[], ⟨none, 0, rfl, Nat.le_refl _, rfl, by simp, fun hp => by simp at hp⟩, by simp [okList], by simp⟩
  · have hlm : len ≤ m := by rw [hmeq]; split <;> omega
    have key : ∀ i, i < len → ∃ y : α, ok y ∧ ∃ c, c.length = d.sz ∧ d.K W y c ∧ ∀ j u, c[j]? = some u → W.cell? (a.add (i * d.sz + j)) = some u := by
      intro i hi
      obtain ⟨cs', h1, h2⟩ := hel i (by omega)
      obtain ⟨y, hy, hok⟩ := he H enc W base spare held n cs' _ h2
      have hca := cells_at h1
      refine ⟨y, hok, cs', by rw [hca.1, hc], hy, fun j u hj => ?_⟩
      have := hca.2 j u hj
      rw [Go.Deep.add_add, hc] at this
      exact this
    let f : Nat → α := fun i => if h : i < len then (key i h).choose else z
    have hf : ∀ i (h : i < len), f i = (key i h).choose := fun i h => by simp only [f]; rw [dif_pos h]
    have hlen : ((List.range len).map f).length = len := by simp
    have hmax : (9223372036854775807 : Nat) ≥ maxLen := by unfold maxLen; omega
    refine ⟨(List.range len).map f, ⟨some a, cap, by rw [hlen], by rw [hlen]; exact hl, ?_⟩, by rw [hlen]; omega, fun y hy => ?_⟩
    · rw [hlen]
      refine ⟨hlen, by omega, fun _ => ⟨a, rfl, fun j p hj => ?_⟩⟩
      have hj' : j < len := by have := (List.getElem?_eq_some_iff.1 hj).1; rwa [hlen] at this
      have e : p = f j := by
        rw [List.getElem?_map, List.getElem?_range hj'] at hj
        simpa using hj.symm
      subst e
      rw [hf j hj']
      obtain ⟨_, c, h1, h2, h3⟩ := (key j hj').choose_spec
      exact ⟨c, h1, h2, h3⟩
    · obtain ⟨i, hi, rfl⟩ := List.mem_map.1 hy
      have hi' : i < len := by simpa using hi
      rw [hf i hi']
      exact (key i hi').choose_spec.1
/-- The fields fs, the first at cell off, tell a value of the kind d. -/
def OpensFs {α : Type} (d : Kd α) (ok : α → Prop) (P : Program) (fs : List Field) (off : Nat) : Prop :=
  ∀ (H : Type) (enc : TypeId × Value → H) (W : World) (base : Nat) (spare : Nat → Bool) (held : Bool) (n : Nat) (cs : List Value), cs.length = off + d.sz →
    (∀ f, f ∈ fs → ∃ y, DataW.trod enc P W base spare held n f.type ((cs.drop f.offset).take (P.cellsOf f.type)) = some y) → ∃ a : α, d.K W a (cs.drop off) ∧ ok a
theorem opensFs_one {α : Type} {d : Kd α} {ok : α → Prop} {P : Program} {f : Field} {off : Nat} (ho : f.offset = off) (hc : P.cellsOf f.type = d.sz) (h : Opens d ok P f.type) : OpensFs d ok P [f] off := by
  intro H enc W base spare held n cs hl hf
  obtain ⟨y, hy⟩ := hf f (by simp)
  rw [ho, hc, List.take_of_length_le (by rw [List.length_drop]; omega)] at hy
  exact h H enc W base spare held n _ _ hy
theorem opensFs_cons {α β : Type} {a : Kd α} {b : Kd β} {oka : α → Prop} {okb : β → Prop} {P : Program} {f : Field} {fs : List Field} {off : Nat} (ho : f.offset = off) (hc : P.cellsOf f.type = a.sz) (h : Opens a oka P f.type) (hs : OpensFs b okb P fs (off + a.sz)) :
    OpensFs (Kd.pair a b) (fun x => oka x.1 ∧ okb x.2) P (f :: fs) off := by
  intro H enc W base spare held n cs hl hf
  have hsz : (Kd.pair a b).sz = a.sz + b.sz := rfl
  rw [hsz] at hl
  obtain ⟨y, hy⟩ := hf f (by simp)
  rw [ho, hc] at hy
  obtain ⟨p, hp, hpo⟩ := h H enc W base spare held n _ _ hy
  obtain ⟨q, hq, hqo⟩ := hs H enc W base spare held n cs (by omega) (fun g hg => hf g (by simp [hg]))
  refine ⟨(p, q), ⟨(cs.drop off).take a.sz, cs.drop (off + a.sz), ?_, hp, hq⟩, hpo, hqo⟩
  rw [← List.drop_drop, List.take_append_drop]
theorem opens_struct {α β : Type} {d : Kd α} {ok : α → Prop} {P : Program} {t : TypeId} {fs : Array Field} (f : β → α) (g : α → β) (hfg : ∀ a, f (g a) = a) (ht : P.underlying t = some (.struct fs)) (hc : P.cellsOf t = d.sz) (h : OpensFs d ok P fs.toList 0) : Opens (Kd.iso d f) (fun x => ok (f x)) P t := by
  intro H enc W base spare held fuel cs x hx
  obtain ⟨xs, n, _, rfl, hl, hlen, hf⟩ := DataW.trod_struct ht hx
  obtain ⟨a, ha, hok⟩ := h H enc W base spare held n cs (by omega) (fun f hf' => by
    obtain ⟨i, hi⟩ := List.getElem?_of_mem hf'
    have hi2 : fs[i]? = some f := by rw [← hi]; simp
    have := hf i f hi2
    have hil : i < xs.length := by rw [hlen]; exact (Array.getElem?_eq_some_iff.1 hi2).1
    rw [List.getElem?_eq_getElem hil] at this
    exact ⟨_, this⟩)
  exact ⟨g a, by show d.K W (f (g a)) cs; rw [hfg]; simpa using ha, by show ok (f (g a)); rw [hfg]; exact hok⟩
end Go.Proofs.Ytholfbdbgginpaa.Open
namespace Go.Proofs.Ytholfbdbgginpaa.Pure
set_option linter.unusedVariables false
set_option linter.unusedSimpArgs false
open Go Go.RowKit Go.Proofs.YtholfbdbgginpaaW.PrintWords Go.Proofs.YtholfbdbgginpaaW.PrintLast Go.Proofs.YtholfbdbgginpaaW.PrintMore
theorem wrap64_id {n : Int} (h0 : -9223372036854775808 ≤ n) (h1 : n ≤ 9223372036854775807) : wrap64 n = n := by
  unfold wrap64; omega
theorem Ev.ok {α : Type} {g : Nat → Option α} {r : α} {K : Nat} (h : ∀ k, K ≤ k → g k = some r) : Ev g r := ⟨K, h⟩
/-- One is known without rounds. -/
theorem Ev.bind1 {α β : Type} {g : Option α} {f : Nat → α → Option β} {a : α} {r : β} (h : g = some a) (k : Ev (fun n => f n a) r) : Ev (fun n => g.bind (f n)) r := by
  subst h
  exact k
end Go.Proofs.Ytholfbdbgginpaa.Pure
namespace Go.Proofs.Ytholfbdbgginpaa.Pure
set_option linter.unusedVariables false
set_option linter.unusedSimpArgs false
open Go Go.RowKit Go.Proofs.YtholfbdbgginpaaW.PrintWords Go.Proofs.YtholfbdbgginpaaW.PrintLast Go.Proofs.YtholfbdbgginpaaW.PrintMore
theorem set_mid {α : Type} (p : List α) (a b : α) (r : List α) : (p ++ a :: r).set (p.length : Int).toNat b = p ++ b :: r := by simp
theorem snoc_app {α : Type} (p : List α) (a : α) (r : List α) : p ++ a :: r = (p ++ [a]) ++ r := by simp
theorem lt_mid {α : Type} (p : List α) (a : α) (r : List α) : (p.length : Int) < ((p ++ a :: r).length : Int) := by rw [List.length_append, List.length_cons]; omega
theorem not_lt_end {α : Type} (p : List α) : ¬ (p.length : Int) < ((p ++ []).length : Int) := by rw [List.append_nil]; omega
theorem next64 {i : Nat} (h : i < 9223372036854775807) : wrap64 ((i : Int) + 1) = ((i + 1 : Nat) : Int) := by rw [wrap64_id (by omega) (by omega)]; omega
end Go.Proofs.Ytholfbdbgginpaa.Pure
namespace Go.Proofs.Ytholfbdbgginpaa.Pure
set_option linter.unusedVariables false
set_option linter.unusedSimpArgs false
open Go Go.RowKit Go.Proofs.Ytholfbdbgginpaa.Q Go.Proofs.YtholfbdbgginpaaW.PrintWords Go.Proofs.YtholfbdbgginpaaW.PrintLast Go.Proofs.YtholfbdbgginpaaW.PrintMore
theorem rdS_mid (p : List ByteArray) (a : ByteArray) (r : List ByteArray) : rdOf ByteArray.empty (p ++ a :: r) (p.length : Int) = a := by simp [rdOf]
theorem lenS_snoc {α : Type} (q : List α) (e : α) : (q ++ [e]).length = q.length + 1 := by simp
theorem eqStr_l0 (N : Nat) (hN : N < 9223372036854775807) (r : List ByteArray) : ∀ p : List ByteArray, p.length + r.length = N → Ev (fun k => laws_eqStringS.l0 k (p ++ r) (p ++ r) (p.length : Int)) true := by
  induction r with
  | nil => intro p h; exact Ev.step (fun k => by rw [laws_eqStringS.l0, if_neg (not_lt_end p)]) (Ev.now _)
  | cons a r ih =>
    intro p h
    simp only [List.length_cons] at h
    refine Ev.step (fun k => by rw [laws_eqStringS.l0, if_pos (lt_mid p a r), if_pos (by omega), if_pos (lt_mid p a r), if_pos rfl, next64 (by omega)]) ?_
    have := ih (p ++ [a]) (by simp; omega)
    rw [← snoc_app, lenS_snoc] at this
    exact this
theorem eqStr (l : List ByteArray) (h : l.length < 9223372036854775807) : Ev (fun k => laws_eqStringS.f k l l) true := by
  unfold laws_eqStringS.f
  simp only [if_true]
  exact eqStr_l0 l.length h l [] (by simp)
end Go.Proofs.Ytholfbdbgginpaa.Pure
namespace Go.Proofs.Ytholfbdbgginpaa.Pure
set_option linter.unusedVariables false
set_option linter.unusedSimpArgs false
open Go Go.RowKit Go.Proofs.Ytholfbdbgginpaa.Q Go.Proofs.YtholfbdbgginpaaW.PrintWords Go.Proofs.YtholfbdbgginpaaW.PrintLast Go.Proofs.YtholfbdbgginpaaW.PrintMore
def imageM (l : List ByteArray) : Bool := decide (1 ≤ (l.length : Int) ∧ (l.length : Int) ≤ 8) && !(l.any (fun s => (s.size : Int) != 8))
theorem implImage (l : List ByteArray) (h : l.length ≤ 9223372036854775807) : impl_isImage.f l = some (imageM l) := by
  unfold impl_isImage.f imageM
  rw [if_pos h]
theorem specImage_l0 (N : Nat) (hN : N ≤ 1000) (r : List ByteArray) : ∀ p : List ByteArray, p.length + r.length = N → Ev (fun k => spec_ImageRight.l0 k (p ++ r) (p.length : Int)) (!(r.any (fun s => (s.size : Int) != 8))) := by
  induction r with
  | nil => intro p h; exact Ev.step (f := fun _ => some true) (fun k => by rw [spec_ImageRight.l0, if_neg (not_lt_end p)]) (Ev.now _)
  | cons a r ih =>
    intro p h
    simp only [List.length_cons] at h
    refine Ev.step (fun k => by rw [spec_ImageRight.l0, if_pos (lt_mid p a r), if_pos (by omega), rdS_mid, next64 (by omega)]) ?_
    rw [List.any_cons]
    by_cases g : (a.size : Int) = 8
    · simp only [if_pos g, show ((a.size : Int) != 8) = false from bne_eq_false_iff_eq.2 g, Bool.false_or]
      have := ih (p ++ [a]) (by simp; omega)
      rw [← snoc_app, lenS_snoc] at this
      exact this
    · simp only [if_neg g, show ((a.size : Int) != 8) = true from bne_iff_ne.2 g, Bool.true_or, Bool.not_true]
      exact Ev.now _
theorem specImage (l : List ByteArray) : Ev (fun k => spec_ImageRight.f k l) (imageM l) := by
  unfold spec_ImageRight.f imageM
  by_cases h1 : (l.length : Int) < 1
  · simp only [if_pos h1, decide_eq_false (show ¬ (1 ≤ (l.length : Int) ∧ (l.length : Int) ≤ 8) by omega), Bool.false_and]
    exact Ev.step (fun k => by rw [spec_ImageRight.j0, if_pos rfl]) (Ev.now _)
  · simp only [if_neg h1]
    by_cases h2 : (l.length : Int) > 8
    · rw [decide_eq_true h2, decide_eq_false (show ¬ (1 ≤ (l.length : Int) ∧ (l.length : Int) ≤ 8) by omega), Bool.false_and]
      exact Ev.step (fun k => by rw [spec_ImageRight.j0, if_pos rfl]) (Ev.now _)
    · rw [decide_eq_false h2, decide_eq_true (show 1 ≤ (l.length : Int) ∧ (l.length : Int) ≤ 8 by omega), Bool.true_and]
      have := specImage_l0 l.length (by omega) l [] (by simp)
      exact Ev.step (f := fun k => spec_ImageRight.l0 k l 0) (fun k => by rw [spec_ImageRight.j0, if_neg (by decide)]) this
end Go.Proofs.Ytholfbdbgginpaa.Pure
namespace Go.Proofs.Ytholfbdbgginpaa.Pure
set_option linter.unusedVariables false
set_option linter.unusedSimpArgs false
open Go Go.RowKit Go.Proofs.Ytholfbdbgginpaa.Q Go.Proofs.YtholfbdbgginpaaW.PrintWords Go.Proofs.YtholfbdbgginpaaW.PrintLast Go.Proofs.YtholfbdbgginpaaW.PrintMore
theorem within_eq (a b c : Int) : impl_within.f a b c = some (decide (b ≤ a ∧ a ≤ c)) := by
  unfold impl_within.f
  by_cases h : a ≥ b
  · rw [if_pos h]; congr 1; rw [Bool.eq_iff_iff]; simp; omega
  · rw [if_neg h]; congr 1; simp; omega
theorem l03Is_eq (a b c : Int) : spec_l03Is.f a b c = some (decide (b ≤ a ∧ a ≤ c)) := by
  unfold spec_l03Is.f
  by_cases h : a ≥ b
  · rw [if_pos h]; congr 1; rw [Bool.eq_iff_iff]; simp; omega
  · rw [if_neg h]; congr 1; simp; omega
end Go.Proofs.Ytholfbdbgginpaa.Pure
namespace Go.Proofs.Ytholfbdbgginpaa.Pure
set_option linter.unusedVariables false
set_option linter.unusedSimpArgs false
open Go Go.RowKit Go.Proofs.Ytholfbdbgginpaa.Q Go.Proofs.YtholfbdbgginpaaW.PrintWords Go.Proofs.YtholfbdbgginpaaW.PrintLast Go.Proofs.YtholfbdbgginpaaW.PrintMore
def emp (d : ByteArray) : Bool := d.toList == ([] : List UInt8)
def e8 (d : ByteArray) : Bool := (d.size : Int) == 8
def inr (x hi : Int) : Bool := decide (0 ≤ x ∧ x ≤ hi)
def stepM (k b c : Int) (d : ByteArray) (n : Int) : Bool :=
  if k = 1 then inr b (n - 1) && (c == 0) && emp d
  else if k = 2 then inr b (n - 1) && (c == 0) && e8 d
  else if k = 3 then inr b (n - 1) && inr c (n - 1) && emp d
  else if k = 4 then inr b (n - 1) && inr c (n - 1) && e8 d
  else if k = 5 then (b == 0) && inr c 1000000 && emp d
  else false
theorem specStep (k b c : Int) (d : ByteArray) (n : Int) (h : 1 ≤ n ∧ n ≤ 8) : spec_StepRight.f k b c d n = some (stepM k b c d n) := by
  unfold spec_StepRight.f stepM inr emp e8
  rw [wrap64_id (n := n - 1) (by omega) (by omega)]
  simp only [l03Is_eq, Option.bind_some, decide_eq_true h, if_true]
  generalize decide (0 ≤ b ∧ b ≤ n - 1) = t1
  generalize decide (0 ≤ c ∧ c ≤ n - 1) = t2
  generalize decide (0 ≤ c ∧ c ≤ 1000000) = t3
  generalize (d.toList == ([] : List UInt8)) = t4
  generalize ((d.size : Int) == 8) = t5
  have q : ∀ x y : Int, (x == y) = decide (x = y) := fun x y => by rw [Bool.eq_iff_iff]; simp
  by_cases k1 : k = 1
  · simp only [if_pos k1, q]; by_cases hc : c = 0 <;> cases t1 <;> simp [hc]
  · simp only [if_neg k1]
    by_cases k2 : k = 2
    · simp only [if_pos k2, q]; by_cases hc : c = 0 <;> cases t1 <;> simp [hc]
    · simp only [if_neg k2]
      by_cases k3 : k = 3
      · simp only [if_pos k3]; cases t1 <;> cases t2 <;> simp
      · simp only [if_neg k3]
        by_cases k4 : k = 4
        · simp only [if_pos k4]; cases t1 <;> cases t2 <;> simp
        · simp only [if_neg k4]
          by_cases k5 : k = 5
          · simp only [if_pos k5, q]; by_cases hb : b = 0 <;> cases t3 <;> simp [hb]
          · simp only [if_neg k5]
def j3M (k b c : Int) (x5 x6 x7 : Bool) : Bool := if k = 5 then (b == 0) && inr c 1000000 && x7 else decide (1 ≤ k ∧ k ≤ 5) && x5 && x6 && x7
theorem isStep_j3 (k b c : Int) (d : ByteArray) (x5 x6 x7 : Bool) : Ev (fun m => impl_isStep.j3 m x5 x6 x7 k b c d) (j3M k b c x5 x6 x7) := by
  refine Ev.step (fun m => by rw [impl_isStep.j3, impl_isTime.f, within_eq, within_eq]) ?_
  simp only [Option.bind_some]
  unfold j3M inr
  generalize decide (0 ≤ c ∧ c ≤ 1000000) = t3
  by_cases k5 : k = 5
  · simp only [if_pos k5, decide_eq_true (show 1 ≤ k ∧ k ≤ 5 by omega), if_true]
    by_cases hb : b = 0
    · cases t3
      · simp only [if_pos hb, Bool.false_eq_true, if_false, Bool.and_false, Bool.false_and]; exact Ev.now _
      · simp only [if_pos hb, if_true, hb, beq_self_eq_true, Bool.true_and]; exact Ev.now _
    · simp only [if_neg hb, show (b == 0) = false from beq_eq_false_iff_ne.2 hb, Bool.false_and]; exact Ev.now _
  · simp only [if_neg k5]
    generalize decide (1 ≤ k ∧ k ≤ 5) = t1
    cases t1
    · simp only [Bool.false_eq_true, if_false, Bool.false_and]; exact Ev.now _
    · cases x5
      · simp only [Bool.false_eq_true, if_false, if_true, Bool.false_and, Bool.true_and]; exact Ev.now _
      · cases x6
        · simp only [Bool.false_eq_true, if_false, if_true, Bool.false_and, Bool.true_and]; exact Ev.now _
        · simp only [if_true, Bool.true_and]; exact Ev.now _
theorem isStep_j2 (k b c : Int) (d : ByteArray) (x5 x6 x7 x39 : Bool) : Ev (fun m => impl_isStep.j2 m x5 x6 x7 x39 k b c d) (j3M k b c x5 x6 (if x39 = true then e8 d else x7)) := by
  refine Ev.step (fun m => by rw [impl_isStep.j2]) ?_
  by_cases h : x39 = true
  · simp only [if_pos h]; exact isStep_j3 k b c d x5 x6 _
  · simp only [if_neg h]; exact isStep_j3 k b c d x5 x6 x7
theorem isStep_j1 (k b c : Int) (d : ByteArray) (x5 x6 x7 : Bool) : Ev (fun m => impl_isStep.j1 m x5 x6 x7 k b c d) (j3M k b c x5 x6 (if k = 2 ∨ k = 4 then e8 d else x7)) := by
  refine Ev.step (fun m => by rw [impl_isStep.j1]) ?_
  by_cases h : k = 2
  · simp only [if_pos h, if_pos (show k = 2 ∨ k = 4 from .inl h)]
    have := isStep_j2 k b c d x5 x6 x7 true
    simpa using this
  · simp only [if_neg h]
    have := isStep_j2 k b c d x5 x6 x7 (k == 4)
    by_cases h4 : k = 4
    · rw [if_pos (.inr h4)]; rw [if_pos (by simp [h4])] at this; exact this
    · rw [if_neg (by omega)]; rw [if_neg (by simp [h4])] at this; exact this
theorem isStep_j0 (k b c : Int) (d : ByteArray) (n : Int) (h : 1 ≤ n ∧ n ≤ 8) (x5 x6 x7 x26 : Bool) : Ev (fun m => impl_isStep.j0 m n x5 x6 x7 x26 k b c d) (j3M k b c x5 (if x26 = true then inr c (n - 1) else x6) (if k = 2 ∨ k = 4 then e8 d else x7)) := by
  refine Ev.step (fun m => by rw [impl_isStep.j0, wrap64_id (n := n - 1) (by omega) (by omega), within_eq]) ?_
  by_cases h : x26 = true
  · simp only [if_pos h, Option.bind_some]; exact isStep_j1 k b c d x5 _ x7
  · simp only [if_neg h]; exact isStep_j1 k b c d x5 x6 x7
theorem implStep (k b c : Int) (d : ByteArray) (n : Int) (h : 1 ≤ n ∧ n ≤ 8) : Ev (fun m => impl_isStep.f m k b c d n) (stepM k b c d n) := by
  have key : Ev (fun m => impl_isStep.j0 m n (inr b (n - 1)) (c == 0) (emp d) (decide (k = 3 ∨ k = 4)) k b c d) (stepM k b c d n) := by
    have := isStep_j0 k b c d n h (inr b (n - 1)) (c == 0) (emp d) (decide (k = 3 ∨ k = 4))
    have e : j3M k b c (inr b (n - 1)) (if decide (k = 3 ∨ k = 4) = true then inr c (n - 1) else (c == 0)) (if k = 2 ∨ k = 4 then e8 d else emp d) = stepM k b c d n := by
      unfold j3M stepM
      by_cases k1 : k = 1
      · subst k1; simp
      · by_cases k2 : k = 2
        · subst k2; simp
        · by_cases k3 : k = 3
          · subst k3; simp
          · by_cases k4 : k = 4
            · subst k4; simp
            · by_cases k5 : k = 5
              · subst k5; simp
              · rw [if_neg k5, if_neg k1, if_neg k2, if_neg k3, if_neg k4, if_neg k5, decide_eq_false (show ¬ (1 ≤ k ∧ k ≤ 5) by omega)]; simp
    rw [e] at this
    exact this
  unfold impl_isStep.f
  rw [wrap64_id (n := n - 1) (by omega) (by omega), within_eq]
  simp only [Option.bind_some]
  by_cases k3 : k = 3
  · simp only [if_pos k3]
    rw [decide_eq_true (show k = 3 ∨ k = 4 from .inl k3)] at key
    exact key
  · simp only [if_neg k3]
    rw [show decide (k = 3 ∨ k = 4) = (k == 4) by rw [Bool.eq_iff_iff]; simp [k3]] at key
    exact key
end Go.Proofs.Ytholfbdbgginpaa.Pure
namespace Go.Proofs.Ytholfbdbgginpaa.Pure
set_option linter.unusedVariables false
set_option linter.unusedSimpArgs false
open Go Go.RowKit Go.Proofs.Ytholfbdbgginpaa.Q Go.Proofs.YtholfbdbgginpaaW.PrintWords Go.Proofs.YtholfbdbgginpaaW.PrintLast Go.Proofs.YtholfbdbgginpaaW.PrintMore
theorem xs_length (a b : ByteArray) : ∀ k, (impl_xored.xs a b k).length = k := by
  intro k
  induction k with
  | zero => rfl
  | succ k ih => simp [impl_xored.xs, ih]
def xorM (a b : ByteArray) : ByteArray := strOfNums (impl_xored.xs a b 8)
theorem implXored (a b : ByteArray) (ha : a.size = 8) (hb : b.size = 8) : impl_xored.f a b = some (xorM a b) := by
  unfold impl_xored.f xorM
  rw [ha, if_pos ⟨by omega, by omega⟩]
theorem specXored_l0 (a b : ByteArray) (ha : a.size = 8) (hb : b.size = 8) (d : Nat) : ∀ i : Nat, i + d = 8 →
    Ev (fun k => spec_Xored.l0 k a b (impl_xored.xs a b i ++ List.replicate d 0) (i : Int)) (xorM a b) := by
  induction d with
  | zero =>
    intro i h
    obtain rfl : i = 8 := by omega
    exact Ev.step (fun k => by rw [spec_Xored.l0, if_neg (by omega), List.replicate_zero, List.append_nil]; rfl) (Ev.now _)
  | succ d ih =>
    intro i h
    have := ih (i + 1) (by omega)
    refine Ev.step (fun k => ?_) this
    have e1 : wrap64 ((i : Int) + 1) = ((i + 1 : Nat) : Int) := by rw [wrap64_id (by omega) (by omega)]; omega
    have e2 : (impl_xored.xs a b i ++ (0 : Int) :: List.replicate d 0).set (i : Int).toNat (Go.bits .xor .u8 (bt a i) (bt b i)) = impl_xored.xs a b (i + 1) ++ List.replicate d 0 := by
      have hl := xs_length a b i
      rw [impl_xored.xs, List.append_assoc, Int.toNat_natCast]
      conv => lhs; rw [show i = (impl_xored.xs a b i).length from hl.symm]
      simp [hl]
    have hlen : ((impl_xored.xs a b i ++ List.replicate (d + 1) (0 : Int)).length : Int) = 8 := by
      rw [List.length_append, xs_length, List.length_replicate]; omega
    rw [spec_Xored.l0, if_pos (by omega), if_pos (by omega), if_pos (by omega), if_pos (by omega), hlen, if_pos (by omega), List.replicate_succ, e2, e1]
theorem specXored (a b : ByteArray) : Ev (fun k => spec_Xored.f k a b) (if a.size = 8 ∧ b.size = 8 then xorM a b else ⟨#[]⟩) := by
  unfold spec_Xored.f
  by_cases ha : a.size = 8
  · simp only [if_pos (show (a.size : Int) = 8 by omega)]
    by_cases hb : b.size = 8
    · rw [if_pos ⟨ha, hb⟩, show ((b.size : Int) != 8) = false by simp [hb]]
      have := specXored_l0 a b ha hb 8 0 rfl
      exact Ev.step (fun k => by rw [spec_Xored.j0, if_neg (by decide), if_pos (by decide)]; rfl) this
    · rw [if_neg (fun h => hb h.2), show ((b.size : Int) != 8) = true by simp; omega]
      exact Ev.step (fun k => by rw [spec_Xored.j0, if_pos rfl]) (Ev.now _)
  · simp only [if_neg (show ¬ (a.size : Int) = 8 by omega)]
    rw [if_neg (fun h => ha h.1)]
    exact Ev.step (fun k => by rw [spec_Xored.j0, if_pos rfl]) (Ev.now _)
end Go.Proofs.Ytholfbdbgginpaa.Pure
namespace Go.Proofs.Ytholfbdbgginpaa.Pure
set_option linter.unusedVariables false
set_option linter.unusedSimpArgs false
open Go Go.RowKit Go.Proofs.Ytholfbdbgginpaa.Q Go.Proofs.YtholfbdbgginpaaW.PrintWords Go.Proofs.YtholfbdbgginpaaW.PrintLast Go.Proofs.YtholfbdbgginpaaW.PrintMore
def zero8 : ByteArray := (⟨#[0, 0, 0, 0, 0, 0, 0, 0]⟩ : ByteArray)
def makeM (k : Int) (d s : ByteArray) : ByteArray := if k = 1 then zero8 else if k = 2 then d else if k = 3 then s else xorM s d
theorem step_from {k b c : Int} {d : ByteArray} {n : Int} (h : stepM k b c d n = true) (hk : ¬ k = 5) (hn : 1 ≤ n) : (0 ≤ c ∧ c ≤ n - 1) ∧ (¬ k = 1 → ¬ k = 2 → ¬ k = 3 → d.size = 8) := by
  unfold stepM inr e8 at h
  by_cases k1 : k = 1
  · rw [if_pos k1] at h
    simp only [Bool.and_eq_true, decide_eq_true_eq, beq_iff_eq] at h
    exact ⟨by omega, fun x => absurd k1 x⟩
  · rw [if_neg k1] at h
    by_cases k2 : k = 2
    · rw [if_pos k2] at h
      simp only [Bool.and_eq_true, decide_eq_true_eq, beq_iff_eq] at h
      exact ⟨by omega, fun _ x => absurd k2 x⟩
    · rw [if_neg k2] at h
      by_cases k3 : k = 3
      · rw [if_pos k3] at h
        simp only [Bool.and_eq_true, decide_eq_true_eq] at h
        exact ⟨h.1.2, fun _ _ x => absurd k3 x⟩
      · rw [if_neg k3] at h
        by_cases k4 : k = 4
        · rw [if_pos k4] at h
          simp only [Bool.and_eq_true, decide_eq_true_eq, beq_iff_eq] at h
          exact ⟨h.1.2, fun _ _ _ => by omega⟩
        · rw [if_neg k4, if_neg hk] at h
          exact absurd h (by decide)
theorem implMake (k b c : Int) (d s : ByteArray) (hs : s.size = 8) (hd : ¬ k = 1 → ¬ k = 2 → ¬ k = 3 → d.size = 8) : impl_madeBy.f k b c d s = some (makeM k d s) := by
  unfold impl_madeBy.f makeM
  by_cases k1 : k = 1
  · rw [if_pos k1, if_pos k1]; rfl
  · rw [if_neg k1, if_neg k1]
    by_cases k2 : k = 2
    · rw [if_pos k2, if_pos k2]
    · rw [if_neg k2, if_neg k2]
      by_cases k3 : k = 3
      · rw [if_pos k3, if_pos k3]
      · rw [if_neg k3, if_neg k3, implXored s d hs (hd k1 k2 k3)]; rfl
theorem specMake (k b c : Int) (d s : ByteArray) (hs : s.size = 8) (hd : ¬ k = 1 → ¬ k = 2 → ¬ k = 3 → d.size = 8) (hz : spec_l07Zero.f = some zero8) : Ev (fun m => spec_l07Make.f m k b c d s) (makeM k d s) := by
  unfold spec_l07Make.f makeM
  by_cases k1 : k = 1
  · simp only [if_pos k1, hz, Option.bind_some]; exact Ev.now _
  · simp only [if_neg k1]
    by_cases k2 : k = 2
    · simp only [if_pos k2]; exact Ev.now _
    · simp only [if_neg k2]
      by_cases k3 : k = 3
      · simp only [if_pos k3]; exact Ev.now _
      · simp only [if_neg k3]
        have := specXored s d
        rw [if_pos ⟨hs, hd k1 k2 k3⟩] at this
        exact Ev.bind this (Ev.now _)
theorem image_at {l : List ByteArray} {c : Int} (h : imageM l = true) (h0 : 0 ≤ c) (h1 : c < (l.length : Int)) : (rdOf ByteArray.empty l c).size = 8 := by
  unfold imageM at h
  simp only [Bool.and_eq_true, Bool.not_eq_true', List.any_eq_false, bne_iff_ne, ne_eq, Decidable.not_not] at h
  have hl : c.toNat < l.length := by omega
  have e : rdOf ByteArray.empty l c = l[c.toNat] := by simp [rdOf, hl]
  rw [e]
  have := h.2 l[c.toNat] (List.getElem_mem hl)
  omega
theorem image_len {l : List ByteArray} (h : imageM l = true) : 1 ≤ (l.length : Int) ∧ (l.length : Int) ≤ 8 := by
  unfold imageM at h
  rw [Bool.and_eq_true, decide_eq_true_iff] at h
  exact h.1
end Go.Proofs.Ytholfbdbgginpaa.Pure
namespace Go.Proofs.Ytholfbdbgginpaa.Pure
set_option linter.unusedVariables false
set_option linter.unusedSimpArgs false
open Go Go.RowKit Go.Proofs.Ytholfbdbgginpaa.Q Go.Proofs.YtholfbdbgginpaaW.PrintWords Go.Proofs.YtholfbdbgginpaaW.PrintLast Go.Proofs.YtholfbdbgginpaaW.PrintMore
def mtGo : Nat → Nat → ByteArray → ByteArray
  | 0, _, acc => (⟨#[109]⟩ : ByteArray) ++ acc
  | d + 1, x, acc => if x = 0 then (⟨#[109]⟩ : ByteArray) ++ acc else mtGo d (x / 10) (strOfNums [(wrap64 (48 + (Int.tmod (x : Int) 10))) % 256] ++ acc)
def markT (m : Int) : ByteArray := if m ≤ 0 then (⟨#[109, 48]⟩ : ByteArray) else mtGo 19 m.toNat (⟨#[]⟩ : ByteArray)
theorem markText_l0 (d : Nat) : ∀ (x : Nat) (acc : ByteArray), x < 10 ^ d → x < 9223372036854775807 → acc.size + d ≤ 1000 → Ev (fun k => laws_markText.l0 k (x : Int) acc) (mtGo d x acc) := by
  induction d with
  | zero =>
    intro x acc h _ hs
    simp only [Nat.pow_zero, Nat.lt_one_iff] at h
    subst h
    exact Ev.step (fun k => by rw [laws_markText.l0, if_neg (by omega), if_pos (by omega)]) (by rw [mtGo]; exact Ev.now _)
  | succ d ih =>
    intro x acc h h6 hs
    rw [mtGo]
    by_cases g : x = 0
    · subst g
      exact Ev.step (fun k => by rw [laws_markText.l0, if_neg (by omega), if_pos (by omega)]) (by rw [if_pos rfl]; exact Ev.now _)
    · rw [if_neg g]
      have e1 : wrap64 (Int.tdiv (x : Int) 10) = ((x / 10 : Nat) : Int) := by
        rw [Int.tdiv_eq_ediv_of_nonneg (by omega), wrap64_id (by omega) (by omega)]; omega
      have e2 : (strOfNums [(wrap64 (48 + (Int.tmod (x : Int) 10))) % 256]).size = 1 := by rw [strOfNums_size]; rfl
      refine Ev.step (fun k => by rw [laws_markText.l0, if_pos (by omega), Option.bind_some, if_pos (by rw [e2]; omega), e1]) ?_
      exact ih (x / 10) _ (by rw [Nat.pow_succ] at h; omega) (by omega) (by rw [ByteArray.size_append, e2]; omega)
theorem markText (m : Int) (h : m ≤ 4000000000000000000) : Ev (fun k => laws_markText.f k m) (markT m) := by
  unfold laws_markText.f markT
  by_cases g : m ≤ 0
  · simp only [if_pos g]; exact Ev.now _
  · simp only [if_neg g]
    have := markText_l0 19 m.toNat (⟨#[]⟩ : ByteArray) (by omega) (by omega) (by decide)
    rw [Int.toNat_of_nonneg (by omega)] at this
    exact this
end Go.Proofs.Ytholfbdbgginpaa.Pure
namespace Go.Proofs.Ytholfbdbgginpaa.Pure
set_option linter.unusedVariables false
set_option linter.unusedSimpArgs false
open Go Go.RowKit Go.Proofs.Ytholfbdbgginpaa.Q Go.Proofs.YtholfbdbgginpaaW.PrintWords Go.Proofs.YtholfbdbgginpaaW.PrintLast Go.Proofs.YtholfbdbgginpaaW.PrintMore
abbrev LStep := S23
abbrev Stp := S26
def stpOf (x : LStep) : Stp := ⟨x.f0, x.f1, x.f2, x.f3⟩
theorem rdLS_mid (p : List LStep) (a : LStep) (r : List LStep) : rd_T23 (p ++ a :: r) (p.length : Int) = a := by simp [rd_T23]
theorem rdSt_mid (p : List Stp) (a : Stp) (r : List Stp) : rd_T26 (p ++ a :: r) (p.length : Int) = a := by simp [rd_T26]
theorem toSt_l0 (N : Nat) (hN : N < 9223372036854775807) (r : List LStep) : ∀ p : List LStep, p.length + r.length = N →
    Ev (fun k => laws_toStepS.l0 k (p ++ r) (p.map stpOf ++ List.replicate r.length z26) (p.length : Int)) ((p ++ r).map stpOf) := by
  induction r with
  | nil => intro p h; exact Ev.step (fun k => by rw [laws_toStepS.l0, if_neg (not_lt_end p)]) (by simpa using Ev.now _)
  | cons a r ih =>
    intro p h
    simp only [List.length_cons] at h
    have hl : (p.length : Int) < ((p.map stpOf ++ List.replicate (a :: r).length z26).length : Int) := by simp only [List.length_append, List.length_map, List.length_replicate, List.length_cons]; omega
    refine Ev.step (fun k => by rw [laws_toStepS.l0, if_pos (lt_mid p a r), if_pos (by omega), rdLS_mid, next64 (by omega)]) ?_
    refine Ev.bind1 (a := (a.f0, a.f1, a.f2, a.f3)) (by unfold laws_toStep.f; rfl) ?_
    simp only [if_pos hl]
    have := ih (p ++ [a]) (by simp; omega)
    rw [← snoc_app, lenS_snoc] at this
    have e : (p.map stpOf ++ List.replicate (a :: r).length z26).set ((p.length : Nat) : Int).toNat (⟨a.f0, a.f1, a.f2, a.f3⟩ : Stp) = (p ++ [a]).map stpOf ++ List.replicate r.length z26 := by
      rw [List.length_cons, List.replicate_succ]
      have := set_mid (p.map stpOf) z26 (⟨a.f0, a.f1, a.f2, a.f3⟩ : Stp) (List.replicate r.length z26)
      rw [List.length_map] at this
      rw [this]; simp [stpOf]
    rw [← e] at this
    exact this
theorem toSt (l : List LStep) (h : l.length ≤ 7036874417766) : Ev (fun k => laws_toStepS.f k l) (l.map stpOf) := by
  unfold laws_toStepS.f
  simp only [if_pos (show (0 : Int) ≤ (l.length : Int) by omega), if_pos (show ((l.length : Int)).toNat ≤ 7036874417766 by omega), Int.toNat_natCast]
  have := toSt_l0 l.length (by omega) l [] (by simp)
  simpa [h] using this
theorem szSt_l0 (N : Nat) (hN : N ≤ 1048576) (r : List LStep) : ∀ (p : List LStep) (x : Int), p.length + r.length = N → 0 ≤ x → x ≤ 1048576 → (∀ s ∈ r, s.f3.size ≤ 9223372036854775807) →
    ∃ v, Ev (fun k => laws_szStepS.l0 k (p ++ r) x (p.length : Int)) v ∧ -1 ≤ v ∧ v ≤ 1048576 := by
  induction r with
  | nil => intro p x h h0 h1 _; exact ⟨x, Ev.step (fun k => by rw [laws_szStepS.l0, if_neg (not_lt_end p)]) (Ev.now _), by omega, by omega⟩
  | cons a r ih =>
    intro p x h h0 h1 hs
    simp only [List.length_cons] at h
    have ha := hs a (by simp)
    by_cases g : x - (a.f3.size : Int) < 0
    · refine ⟨-1, Ev.step (fun k => by rw [laws_szStepS.l0, if_pos (lt_mid p a r), if_pos (by omega), rdLS_mid]) (Ev.bind1 (a := -1) (by unfold laws_szStep.f; rw [wrap64_id (n := x - (a.f3.size : Int)) (by omega) (by omega), if_pos g]) ?_), by omega, by omega⟩
      simp only [show ((-1 : Int) < 0) from by decide, if_true]; exact Ev.now _
    · obtain ⟨v, e, b0, b1⟩ := ih (p ++ [a]) (x - (a.f3.size : Int)) (by simp; omega) (by omega) (by omega) (fun s h => hs s (by simp [h]))
      rw [← snoc_app, lenS_snoc] at e
      refine ⟨v, Ev.step (fun k => by rw [laws_szStepS.l0, if_pos (lt_mid p a r), if_pos (by omega), rdLS_mid, next64 (by omega)]) (Ev.bind1 (a := x - (a.f3.size : Int)) (by unfold laws_szStep.f; rw [wrap64_id (n := x - (a.f3.size : Int)) (by omega) (by omega), if_neg g]) ?_), b0, b1⟩
      simp only [if_neg g]; exact e
theorem szSt2 (l : List LStep) (x : Int) (h0 : 0 ≤ x) (h1 : x ≤ 1048576) (hl : l.length ≤ 9223372036854775807) (hs : ∀ s ∈ l, s.f3.size ≤ 9223372036854775807) : ∃ v, Ev (fun k => laws_szStepS.f k l x) v ∧ (¬ v < 0 → l.length ≤ 1048576) ∧ -1 ≤ v ∧ v ≤ 1048576 := by
  unfold laws_szStepS.f
  rw [wrap64_id (n := x - (l.length : Int)) (by omega) (by omega)]
  by_cases g : x - (l.length : Int) < 0
  · exact ⟨-1, by simp only [if_pos g]; exact Ev.now _, by omega, by omega, by omega⟩
  · obtain ⟨v, e, b0, b1⟩ := szSt_l0 l.length (by omega) l [] (x - (l.length : Int)) (by simp) (by omega) (by omega) hs
    exact ⟨v, by simp only [if_neg g]; exact e, by omega, b0, b1⟩
theorem eqSt_l0 (N : Nat) (hN : N < 9223372036854775807) (r : List Stp) : ∀ p : List Stp, p.length + r.length = N → Ev (fun k => laws_eqStepS.l0 k (p ++ r) (p ++ r) (p.length : Int)) true := by
  induction r with
  | nil => intro p h; exact Ev.step (fun k => by rw [laws_eqStepS.l0, if_neg (not_lt_end p)]) (Ev.now _)
  | cons a r ih =>
    intro p h
    simp only [List.length_cons] at h
    refine Ev.step (fun k => by rw [laws_eqStepS.l0, if_pos (lt_mid p a r), if_pos (by omega), if_pos (lt_mid p a r), rdSt_mid, next64 (by omega)]) ?_
    refine Ev.bind1 (a := true) (by unfold laws_eqStep.f; simp) ?_
    simp only [if_true]
    have := ih (p ++ [a]) (by simp; omega)
    rw [← snoc_app, lenS_snoc] at this
    exact this
theorem eqSt (l : List Stp) (h : l.length < 9223372036854775807) : Ev (fun k => laws_eqStepS.f k l l) true := by
  unfold laws_eqStepS.f
  simp only [if_true]
  exact eqSt_l0 l.length h l [] (by simp)
def markSt (m : Int) : Stp := ⟨m, m + 1, m + 2, markT (m + 3)⟩
def marksSt : Int → Nat → List Stp
  | _, 0 => []
  | m, n + 1 => markSt m :: marksSt (m + 4) n
theorem markStp_l0 (N : Nat) (hN : N < 1000000000000000000) (r : List Stp) : ∀ (p : List Stp) (m : Int), p.length + r.length = N → 0 ≤ m → m + 4 * r.length ≤ 4000000000000000000 →
    Ev (fun k => laws_markStepS.l0 k (p ++ r) m (p.length : Int)) (m + 4 * r.length, p ++ marksSt m r.length) := by
  induction r with
  | nil => intro p m h h0 h1; exact Ev.step (fun k => by rw [laws_markStepS.l0, if_neg (not_lt_end p)]) (by simpa [marksSt] using Ev.now _)
  | cons a r ih =>
    intro p m h h0 h1
    simp only [List.length_cons] at h h1
    refine Ev.step (fun k => by rw [laws_markStepS.l0, if_pos (lt_mid p a r), if_pos (by omega), next64 (by omega), wrap64_id (n := m + 1) (by omega) (by omega), wrap64_id (n := m + 1 + 1) (by omega) (by omega), wrap64_id (n := m + 1 + 1 + 1) (by omega) (by omega), wrap64_id (n := m + 1 + 1 + 1 + 1) (by omega) (by omega), rdSt_mid, set_mid]) ?_
    simp only [Option.bind_some, rdSt_mid, set_mid]
    refine Ev.bind (markText (m + 1 + 1 + 1) (by omega)) ?_
    have := ih (p ++ [markSt m]) (m + 4) (by simp; omega) (by omega) (by omega)
    rw [← snoc_app, lenS_snoc, List.append_assoc] at this
    rw [List.length_cons, marksSt, show m + 4 * ((r.length + 1 : Nat) : Int) = m + 4 + 4 * (r.length : Int) by omega]
    rw [show m + 1 + 1 + 1 + 1 = m + 4 by omega, show m + 1 + 1 + 1 = m + 3 by omega, show m + 1 + 1 = m + 2 by omega]
    exact this
theorem markStp (l : List Stp) (m : Int) (h : l.length < 1000000000000000000) (h0 : 0 ≤ m) (h1 : m + 4 * l.length ≤ 4000000000000000000) : Ev (fun k => laws_markStepS.f k l m) (m + 4 * l.length, marksSt m l.length) := by
  unfold laws_markStepS.f
  have := markStp_l0 l.length h l [] m (by simp) h0 h1
  exact this
end Go.Proofs.Ytholfbdbgginpaa.Pure
namespace Go.Proofs.Ytholfbdbgginpaa.Pure
set_option linter.unusedVariables false
set_option linter.unusedSimpArgs false
open Go Go.RowKit Go.Proofs.Ytholfbdbgginpaa.Q Go.Proofs.YtholfbdbgginpaaW.PrintWords Go.Proofs.YtholfbdbgginpaaW.PrintLast Go.Proofs.YtholfbdbgginpaaW.PrintMore
def badM (n : Int) (x : Stp) : Bool := !(stepM x.f0 x.f1 x.f2 x.f3 n)
def dups : List Stp → List Stp → Bool
  | _, [] => false
  | p, x :: r => (x.f0 != 5 && p.any (impl_touches.is x.f1)) || dups (p ++ [x]) r
def rise : Int → List Stp → Bool
  | _, [] => true
  | lb, x :: r => if x.f0 = 5 then decide (lb < x.f2) && rise x.f2 r else rise lb r
def formM (l : List Stp) (n : Int) : Bool := decide (1 ≤ n ∧ n ≤ 8) && decide ((l.length : Int) ≤ 20) && !(l.any (badM n))
def codeM (l : List Stp) (n : Int) : Int := if formM l n = true then (if dups [] l = true then 12 else if rise (-1) l = true then 0 else 8) else 1
theorem idx_before (p : Stp → Bool) (x : Stp) (r : List Stp) (hx : p x = true) : ∀ (a : List Stp) (i : Int), (idxFrom p (a ++ x :: r) i < i + a.length ↔ a.any p = true) := by
  intro a
  induction a with
  | nil => intro i; simp [idxFrom, hx]
  | cons y a ih =>
    intro i
    rw [List.cons_append, idxFrom, List.any_cons]
    by_cases h : p y = true
    · rw [if_pos h, h]; simp; omega
    · rw [if_neg h, Bool.eq_false_iff.2 h, Bool.false_or, ← ih (i + 1)]; simp only [List.length_cons]; omega
theorem scan_eq (r : List Stp) : ∀ (p : List Stp) (lb : Int) (up : Bool), impl_stepsCode.scan (p ++ r) r (p.length : Int) lb up = if dups p r = true then 12 else if (up && rise lb r) = true then 0 else 8 := by
  induction r with
  | nil => intro p lb up; simp [impl_stepsCode.scan, dups, rise]
  | cons x r ih =>
    intro p lb up
    have e : ((p.length : Int) + 1) = ((p ++ [x]).length : Int) := by simp
    have ea : p ++ x :: r = (p ++ [x]) ++ r := by simp
    rw [impl_stepsCode.scan, dups, rise]
    by_cases h : x.f0 = 5
    · rw [if_pos h, if_pos h, e, ea, ih, show (x.f0 != 5) = false from bne_eq_false_iff_eq.2 h, Bool.false_and, Bool.false_or, Bool.and_assoc]
    · rw [if_neg h, if_neg h, show (x.f0 != 5) = true from bne_iff_ne.2 h, Bool.true_and]
      have hx : impl_touches.is x.f1 x = true := by simp [impl_touches.is, h]
      have hb := idx_before (impl_touches.is x.f1) x r hx p 0
      rw [Int.zero_add] at hb
      by_cases g : idxFrom (impl_touches.is x.f1) (p ++ x :: r) 0 < (p.length : Int)
      · rw [if_pos g, hb.1 g, Bool.true_or, if_pos rfl]
      · rw [if_neg g, Bool.eq_false_iff.2 (fun h => g (hb.2 h)), Bool.false_or, e, ea, ih]
theorem implOk (n : Int) (hn : 1 ≤ n ∧ n ≤ 8) : ∀ l : List Stp, ∃ K, ∀ k, K ≤ k → ∀ x ∈ l, impl_stepsCode.ok k n x = some (stepM x.f0 x.f1 x.f2 x.f3 n) := by
  intro l
  induction l with
  | nil => exact ⟨0, fun k _ x hx => by cases hx⟩
  | cons a r ih =>
    obtain ⟨K1, h1⟩ := ih
    obtain ⟨K2, h2⟩ := implStep a.f0 a.f1 a.f2 a.f3 n hn
    refine ⟨max K1 K2, fun k hk x hx => ?_⟩
    rcases List.mem_cons.1 hx with rfl | hx
    · exact h2 k (by omega)
    · exact h1 k (by omega) x hx
theorem implCode (l : List Stp) (n : Int) (hl : l.length ≤ 9223372036854775807) : Ev (fun k => impl_stepsCode.f k l n) (codeM l n) := by
  have hscan := scan_eq l [] (-1) true
  rw [Bool.true_and, List.nil_append] at hscan
  by_cases h1 : 1 ≤ n ∧ n ≤ 8
  · obtain ⟨K, hK⟩ := implOk n h1 l
    refine ⟨K, fun k hk => ?_⟩
    have ok := hK k hk
    show impl_stepsCode.f k l n = _
    unfold impl_stepsCode.f
    rw [if_pos ⟨hl, fun _ _ x hx => by rw [ok x hx]; rfl⟩]
    have ef : impl_stepsCode.form k l n = formM l n := by
      unfold impl_stepsCode.form formM
      have ea : l.any (impl_stepsCode.bad k n) = l.any (badM n) := by
        rw [Bool.eq_iff_iff, List.any_eq_true, List.any_eq_true]
        constructor
        · rintro ⟨x, hx, hb⟩; exact ⟨x, hx, by unfold impl_stepsCode.bad at hb; rw [ok x hx] at hb; exact hb⟩
        · rintro ⟨x, hx, hb⟩; exact ⟨x, hx, by unfold impl_stepsCode.bad; rw [ok x hx]; exact hb⟩
      rw [ea]
    rw [ef]
    unfold codeM
    rw [← hscan]
    rfl
  · refine ⟨0, fun k _ => ?_⟩
    show impl_stepsCode.f k l n = _
    unfold impl_stepsCode.f
    rw [if_pos ⟨hl, fun h => absurd h h1⟩]
    have e1 : impl_stepsCode.form k l n = false := by unfold impl_stepsCode.form; rw [decide_eq_false h1, Bool.false_and, Bool.false_and]
    have e2 : formM l n = false := by unfold formM; rw [decide_eq_false h1, Bool.false_and, Bool.false_and]
    unfold codeM
    rw [e1, e2]
    rfl
theorem specRise (N : Nat) (hN : N ≤ 20) (r : List Stp) : ∀ (p : List Stp) (lb : Int), p.length + r.length = N → Ev (fun k => spec_StepsCode.l3 k (p ++ r) lb (p.length : Int)) (if rise lb r = true then 0 else 8) := by
  induction r with
  | nil => intro p lb h; exact Ev.step (f := fun _ => some 0) (fun k => by rw [spec_StepsCode.l3, if_neg (not_lt_end p)]) (by simpa [rise] using Ev.now _)
  | cons x r ih =>
    intro p lb h
    simp only [List.length_cons] at h
    have ih' := fun lb => ih (p ++ [x]) lb (by simp; omega)
    rw [← snoc_app, lenS_snoc] at ih'
    refine Ev.step (fun k => by rw [spec_StepsCode.l3, if_pos (lt_mid p x r), if_pos (by omega), rdSt_mid, next64 (by omega)]) ?_
    rw [rise]
    by_cases g : x.f0 = 5
    · simp only [if_pos g]
      by_cases g2 : x.f2 ≤ lb
      · simp only [if_pos g2, decide_eq_false (show ¬ lb < x.f2 by omega), Bool.false_and]
        exact Ev.now _
      · simp only [if_neg g2, decide_eq_true (show lb < x.f2 by omega), Bool.true_and]
        exact ih' x.f2
    · simp only [if_neg g]
      exact ih' lb
theorem specTwice (N : Nat) (hN : N ≤ 20) (x : Stp) (r : List Stp) (L : List Stp) (R : Int) (q2 : List Stp) : ∀ (q1 : List Stp), (q1 ++ q2).length ≤ 20 → L = (q1 ++ q2) ++ x :: r →
    Ev (fun k => spec_StepsCode.l1 k L (((q1 ++ q2).length : Int) + 1)) R →
    Ev (fun k => spec_StepsCode.l2 k L ((q1 ++ q2).length : Int) (q1.length : Int)) (if (x.f0 != 5 && q2.any (impl_touches.is x.f1)) = true then 12 else R) := by
  induction q2 with
  | nil =>
    intro q1 h hL hR
    rw [List.append_nil] at h hL hR ⊢
    refine Ev.step (f := fun k => spec_StepsCode.l1 k L ((q1.length : Int) + 1)) (fun k => by rw [spec_StepsCode.l2, if_neg (by omega), wrap64_id (n := (q1.length : Int) + 1) (by omega) (by omega)]) ?_
    simpa using hR
  | cons y q2 ih =>
    intro q1 h hL hR
    have ea : q1 ++ y :: q2 = (q1 ++ [y]) ++ q2 := by simp
    have hlen : (q1 ++ y :: q2).length = q1.length + 1 + q2.length := by simp; omega
    have hy : rd_T26 L (q1.length : Int) = y := by rw [hL, List.append_assoc, List.cons_append]; exact rdSt_mid _ _ _
    have hxx : rd_T26 L ((q1 ++ y :: q2).length : Int) = x := by rw [hL]; exact rdSt_mid _ _ _
    have hLl : ((q1 ++ y :: q2).length : Int) < (L.length : Int) := by rw [hL]; exact lt_mid _ _ _
    have ih' := ih (q1 ++ [y]) (by rw [← ea]; exact h) (by rw [← ea]; exact hL) (by rw [← ea]; exact hR)
    rw [← ea, lenS_snoc] at ih'
    refine Ev.step (fun k => by rw [spec_StepsCode.l2, if_pos (by omega), if_pos (by omega), if_pos hLl, if_pos (show (0 : Int) ≤ (q1.length : Int) by omega), if_pos (show (q1.length : Int) < (L.length : Int) by omega), hy, hxx, next64 (by omega)]) ?_
    rw [List.any_cons]
    by_cases g : x.f0 = 5
    · simp only [if_pos g]
      rw [show (x.f0 != 5) = false from bne_eq_false_iff_eq.2 g, Bool.false_and] at ih' ⊢
      exact ih'
    · simp only [if_neg g]
      rw [show (x.f0 != 5) = true from bne_iff_ne.2 g, Bool.true_and] at ih' ⊢
      by_cases g2 : y.f0 = 5
      · simp only [if_pos g2]
        rw [show impl_touches.is x.f1 y = false by simp [impl_touches.is, g2], Bool.false_or]
        exact ih'
      · simp only [if_neg g2]
        by_cases g3 : x.f1 = y.f1
        · simp only [if_pos g3]
          rw [show impl_touches.is x.f1 y = true by simp [impl_touches.is, g2, g3], Bool.true_or, if_pos rfl]
          exact Ev.now _
        · simp only [if_neg g3]
          rw [show impl_touches.is x.f1 y = false by simp [impl_touches.is, g2]; exact fun h => g3 h.symm, Bool.false_or]
          exact ih'
theorem specDups (R : Int) (L : List Stp) (hL : L.length ≤ 20) (hR : Ev (fun k => spec_StepsCode.l3 k L (-1) 0) R) (r : List Stp) : ∀ (p : List Stp), L = p ++ r → Ev (fun k => spec_StepsCode.l1 k L (p.length : Int)) (if dups p r = true then 12 else R) := by
  induction r with
  | nil =>
    intro p h
    subst h
    refine Ev.step (fun k => by rw [spec_StepsCode.l1, if_neg (not_lt_end p)]) ?_
    simpa [dups] using hR
  | cons x r ih =>
    intro p h
    have hl : p.length + 1 + r.length ≤ 20 := by rw [h] at hL; simp at hL; omega
    have hlt : (p.length : Int) < (L.length : Int) := by rw [h]; exact lt_mid p x r
    refine Ev.step (fun k => by rw [spec_StepsCode.l1, if_pos hlt]) ?_
    have ih' := ih (p ++ [x]) (by rw [h]; simp)
    rw [lenS_snoc] at ih'
    have := specTwice p.length (by omega) x r L _ p [] (by simp; omega) (by simpa using h) (by simpa using ih')
    rw [List.nil_append] at this
    rw [dups]
    have e : (if (x.f0 != 5 && p.any (impl_touches.is x.f1) || dups (p ++ [x]) r) = true then (12 : Int) else R) = if (x.f0 != 5 && p.any (impl_touches.is x.f1)) = true then 12 else if dups (p ++ [x]) r = true then 12 else R := by
      cases (x.f0 != 5 && p.any (impl_touches.is x.f1)) <;> simp
    rw [e]
    exact this
theorem specForm (n : Int) (hn : 1 ≤ n ∧ n ≤ 8) (R : Int) (L : List Stp) (hL : L.length ≤ 20) (hR : Ev (fun k => spec_StepsCode.l1 k L 0) R) (r : List Stp) : ∀ (p : List Stp), L = p ++ r → Ev (fun k => spec_StepsCode.l0 k L n (p.length : Int)) (if r.any (badM n) = true then 1 else R) := by
  induction r with
  | nil =>
    intro p h
    subst h
    refine Ev.step (fun k => by rw [spec_StepsCode.l0, if_neg (not_lt_end p)]) ?_
    simpa using hR
  | cons x r ih =>
    intro p h
    have hl : p.length + 1 + r.length ≤ 20 := by rw [h] at hL; simp at hL; omega
    have hlt : (p.length : Int) < (L.length : Int) := by rw [h]; exact lt_mid p x r
    have hx : rd_T26 L (p.length : Int) = x := by rw [h]; exact rdSt_mid _ _ _
    refine Ev.step (fun k => by rw [spec_StepsCode.l0, if_pos hlt, if_pos (by omega), hx, next64 (by omega), specStep _ _ _ _ n hn]) ?_
    simp only [Option.bind_some]
    rw [List.any_cons]
    by_cases g : stepM x.f0 x.f1 x.f2 x.f3 n = true
    · simp only [if_pos g]
      rw [show badM n x = false by simp [badM, g], Bool.false_or]
      have ih' := ih (p ++ [x]) (by rw [h]; simp)
      rw [lenS_snoc] at ih'
      exact ih'
    · simp only [if_neg g]
      rw [show badM n x = true by simp [badM, g], Bool.true_or, if_pos rfl]
      exact Ev.now _
theorem specCode (l : List Stp) (n : Int) : Ev (fun k => spec_StepsCode.f k l n) (codeM l n) := by
  unfold spec_StepsCode.f codeM
  by_cases h2 : (l.length : Int) > 20
  · simp only [if_pos h2]
    rw [show formM l n = false by unfold formM; rw [decide_eq_false (show ¬ (l.length : Int) ≤ 20 by omega), Bool.and_false, Bool.false_and]]
    exact Ev.step (f := fun _ => some 1) (fun k => by rw [spec_StepsCode.j0, if_pos rfl]) (Ev.now _)
  · simp only [if_neg h2, l03Is_eq, Option.bind_some]
    by_cases h1 : 1 ≤ n ∧ n ≤ 8
    · rw [decide_eq_true h1]
      refine Ev.step (fun k => by rw [spec_StepsCode.j0, if_neg (by decide)]) ?_
      have h3 := specRise l.length (by omega) l [] (-1) (by simp)
      have h4 := specDups _ l (by omega) h3 l [] (by simp)
      have h5 := specForm n h1 _ l (by omega) h4 l [] (by simp)
      unfold formM
      rw [decide_eq_true h1, decide_eq_true (show (l.length : Int) ≤ 20 by omega), Bool.true_and, Bool.true_and]
      cases hb : l.any (badM n)
      · rw [hb] at h5; exact h5
      · rw [hb] at h5; exact h5
    · rw [decide_eq_false h1]
      rw [show formM l n = false by unfold formM; rw [decide_eq_false h1, Bool.false_and, Bool.false_and]]
      exact Ev.step (f := fun _ => some 1) (fun k => by rw [spec_StepsCode.j0, if_pos (show (!false) = true from rfl)]) (Ev.now _)
end Go.Proofs.Ytholfbdbgginpaa.Pure
namespace Go.Proofs.Ytholfbdbgginpaa.Pure
set_option linter.unusedVariables false
set_option linter.unusedSimpArgs false
open Go Go.RowKit Go.Proofs.Ytholfbdbgginpaa.Q Go.Proofs.YtholfbdbgginpaaW.PrintWords Go.Proofs.YtholfbdbgginpaaW.PrintLast Go.Proofs.YtholfbdbgginpaaW.PrintMore
def onlyW (l : List Stp) : List Stp := l.filter (fun x => !(x.f0 == 5))
theorem onlyW_length (l : List Stp) : (onlyW l).length ≤ l.length := List.length_filter_le _ _
theorem implOnlyW (l : List Stp) (h : l.length * 40 ≤ 140737488355328) : impl_writes.f l = some (onlyW l) := by
  unfold impl_writes.f; rw [if_pos h]; rfl
end Go.Proofs.Ytholfbdbgginpaa.Pure
namespace Go.Proofs.Ytholfbdbgginpaa.Pure
set_option linter.unusedVariables false
set_option linter.unusedSimpArgs false
open Go Go.RowKit Go.Proofs.Ytholfbdbgginpaa.Q Go.Proofs.YtholfbdbgginpaaW.PrintWords Go.Proofs.YtholfbdbgginpaaW.PrintLast Go.Proofs.YtholfbdbgginpaaW.PrintMore
def applyGo (im : List ByteArray) : List ByteArray → List Stp → List ByteArray
  | out, [] => out
  | out, x :: r => if x.f0 = 5 then applyGo im out r else applyGo im (out.set x.f1.toNat (makeM x.f0 x.f3 (rdOf ByteArray.empty im x.f2))) r
theorem applyGo_length (im : List ByteArray) : ∀ (r : List Stp) (out : List ByteArray), (applyGo im out r).length = out.length := by
  intro r
  induction r with
  | nil => intro out; rfl
  | cons x r ih => intro out; rw [applyGo]; split <;> rw [ih]; rw [List.length_set]
theorem applyGo_only (im : List ByteArray) : ∀ (r : List Stp) (out : List ByteArray), applyGo im out (onlyW r) = applyGo im out r := by
  intro r
  induction r with
  | nil => intro out; rfl
  | cons x r ih =>
    intro out
    by_cases h : x.f0 = 5
    · rw [show onlyW (x :: r) = onlyW r by simp [onlyW, h], applyGo, if_pos h, ih]
    · rw [show onlyW (x :: r) = x :: onlyW r by simp [onlyW, h], applyGo, applyGo, if_neg h, if_neg h, ih]
theorem step_to {k b c : Int} {d : ByteArray} {n : Int} (h : stepM k b c d n = true) (hk : ¬ k = 5) : 0 ≤ b ∧ b ≤ n - 1 := by
  unfold stepM inr at h
  by_cases k1 : k = 1
  · rw [if_pos k1] at h
    simp only [Bool.and_eq_true, decide_eq_true_eq] at h
    exact h.1.1
  · rw [if_neg k1] at h
    by_cases k2 : k = 2
    · rw [if_pos k2] at h
      simp only [Bool.and_eq_true, decide_eq_true_eq] at h
      exact h.1.1
    · rw [if_neg k2] at h
      by_cases k3 : k = 3
      · rw [if_pos k3] at h
        simp only [Bool.and_eq_true, decide_eq_true_eq] at h
        exact h.1.1
      · rw [if_neg k3] at h
        by_cases k4 : k = 4
        · rw [if_pos k4] at h
          simp only [Bool.and_eq_true, decide_eq_true_eq] at h
          exact h.1.1
        · rw [if_neg k4, if_neg hk] at h
          exact absurd h (by decide)
theorem specApply (im : List ByteArray) (hi : imageM im = true) (hz : spec_l07Zero.f = some zero8) (N : Nat) (hN : N ≤ 20) (r : List Stp) : ∀ (p : List Stp) (out : List ByteArray), p.length + r.length = N → out.length = im.length → (∀ x ∈ r, stepM x.f0 x.f1 x.f2 x.f3 im.length = true) →
    Ev (fun k => spec_l07Apply.l0 k im (p ++ r) out (p.length : Int)) (applyGo im out r) := by
  have hn := image_len hi
  induction r with
  | nil => intro p out h _ _; exact Ev.step (f := fun _ => some out) (fun k => by rw [spec_l07Apply.l0, if_neg (not_lt_end p)]) (Ev.now _)
  | cons x r ih =>
    intro p out h ho hs
    simp only [List.length_cons] at h
    refine Ev.step (fun k => by rw [spec_l07Apply.l0, if_pos (lt_mid p x r), if_pos (by omega), rdSt_mid, next64 (by omega)]) ?_
    rw [applyGo]
    have hs' : ∀ y ∈ r, stepM y.f0 y.f1 y.f2 y.f3 im.length = true := fun y hy => hs y (by simp [hy])
    by_cases g : x.f0 = 5
    · simp only [if_pos g]
      have := ih (p ++ [x]) out (by simp; omega) ho hs'
      rw [← snoc_app, lenS_snoc] at this
      exact this
    · have hx := hs x (by simp)
      obtain ⟨⟨c0, c1⟩, hd⟩ := step_from hx g hn.1
      obtain ⟨b0, b1⟩ := step_to hx g
      simp only [if_neg g, if_pos c0, if_pos (show x.f2 < (im.length : Int) by omega)]
      refine Ev.bind (specMake x.f0 x.f1 x.f2 x.f3 _ (image_at hi c0 (by omega)) hd hz) ?_
      simp only [if_pos b0, if_pos (show x.f1 < (out.length : Int) by omega)]
      have := ih (p ++ [x]) (out.set x.f1.toNat (makeM x.f0 x.f3 (rdOf ByteArray.empty im x.f2))) (by simp; omega) (by rw [List.length_set]; exact ho) hs'
      rw [← snoc_app, lenS_snoc] at this
      exact this
theorem implApply (im : List ByteArray) (hi : imageM im = true) (N : Nat) (hN : N ≤ 20) (r : List Stp) : ∀ (p : List Stp) (out : List ByteArray), p.length + r.length = N → out.length = im.length → (∀ x ∈ r, stepM x.f0 x.f1 x.f2 x.f3 im.length = true ∧ ¬ x.f0 = 5) →
    Ev (fun k => impl_imageApply.l0 k im out (p ++ r) (N : Int) (p.length : Int)) (applyGo im out r) := by
  have hn := image_len hi
  induction r with
  | nil => intro p out h _ _; simp at h; exact Ev.step (f := fun _ => some out) (fun k => by rw [impl_imageApply.l0, if_neg (by omega)]) (Ev.now _)
  | cons x r ih =>
    intro p out h ho hs
    simp only [List.length_cons] at h
    refine Ev.step (fun k => by rw [impl_imageApply.l0, if_pos (show (p.length : Int) < (N : Int) by omega), if_pos (by omega), if_pos (lt_mid p x r), rdSt_mid, next64 (by omega)]) ?_
    rw [applyGo]
    obtain ⟨hx, g⟩ := hs x (by simp)
    obtain ⟨⟨c0, c1⟩, hd⟩ := step_from hx g hn.1
    obtain ⟨b0, b1⟩ := step_to hx g
    simp only [if_neg g, if_pos c0, if_pos (show x.f2 < (im.length : Int) by omega)]
    rw [implMake x.f0 x.f1 x.f2 x.f3 _ (image_at hi c0 (by omega)) hd]
    simp only [Option.bind_some, if_pos b0, if_pos (show x.f1 < (out.length : Int) by omega)]
    have := ih (p ++ [x]) (out.set x.f1.toNat (makeM x.f0 x.f3 (rdOf ByteArray.empty im x.f2))) (by simp; omega) (by rw [List.length_set]; exact ho) (fun y hy => hs y (by simp [hy]))
    rw [← snoc_app, lenS_snoc] at this
    exact this
def applyM (im : List ByteArray) (l : List Stp) : List ByteArray × Int :=
  if (im.length : Int) > 400 ∨ (l.length : Int) > 400 then ([], 2) else if imageM im = true then (if codeM l im.length = 0 then (applyGo im im l, 0) else ([], codeM l im.length)) else ([], 1)
theorem applyM_length (im : List ByteArray) (l : List Stp) : (applyM im l).1.length ≤ im.length := by
  unfold applyM
  split
  · simp
  · split
    · split
      · rw [applyGo_length]; exact Nat.le_refl _
      · simp
    · simp
theorem code_steps {l : List Stp} {n : Int} (h : codeM l n = 0) : (l.length : Int) ≤ 20 ∧ ∀ x ∈ l, stepM x.f0 x.f1 x.f2 x.f3 n = true := by
  unfold codeM at h
  by_cases hf : formM l n = true
  · unfold formM at hf
    simp only [Bool.and_eq_true, decide_eq_true_eq, Bool.not_eq_true', List.any_eq_false] at hf
    refine ⟨hf.1.2, fun x hx => ?_⟩
    have := hf.2 x hx
    simpa [badM] using this
  · rw [if_neg hf] at h; exact absurd h (by decide)
theorem implImageApply (im : List ByteArray) (l : List Stp) (h1 : im.length ≤ 9223372036854775807) (h2 : l.length ≤ 9223372036854775807) : Ev (fun k => impl_ImageApply.f k im l) (applyM im l) := by
  unfold impl_ImageApply.f applyM
  by_cases g1 : (im.length : Int) > 400
  · simp only [if_pos g1, if_pos (show (im.length : Int) > 400 ∨ (l.length : Int) > 400 from .inl g1)]
    exact Ev.step (f := fun _ => some ([], 2)) (fun k => by rw [impl_ImageApply.j0, if_pos rfl]) (Ev.now _)
  · simp only [if_neg g1]
    by_cases g2 : (l.length : Int) > 400
    · rw [if_pos (.inr g2), decide_eq_true g2]
      exact Ev.step (f := fun _ => some ([], 2)) (fun k => by rw [impl_ImageApply.j0, if_pos rfl]) (Ev.now _)
    · rw [if_neg (by omega), decide_eq_false g2]
      refine Ev.step (fun k => by rw [impl_ImageApply.j0, if_neg (by decide), implImage im h1]) ?_
      simp only [Option.bind_some]
      by_cases hi : imageM im = true
      · simp only [if_pos hi]
        unfold impl_size_string.f
        simp only [Option.bind_some]
        refine Ev.bind (implCode l im.length h2) ?_
        by_cases hc : codeM l im.length = 0
        · simp only [if_pos hc]
          obtain ⟨hl, hst⟩ := code_steps hc
          have hn := image_len hi
          refine Ev.bind (a := applyGo im im l) ?_ (Ev.now _)
          unfold impl_imageApply.f
          rw [show slices_Clone_string_string.f im = some im by unfold slices_Clone_string_string.f; rw [if_pos (by omega)], implOnlyW l (by omega)]
          simp only [Option.bind_some]
          have hw := onlyW_length l
          have := implApply im hi (onlyW l).length (by omega) (onlyW l) [] im (by simp) rfl (fun x hx => by
            unfold onlyW at hx
            rw [List.mem_filter] at hx
            exact ⟨hst x hx.1, by simpa using hx.2⟩)
          rw [applyGo_only] at this
          exact this
        · simp only [if_neg hc]; exact Ev.now _
      · simp only [if_neg hi]; exact Ev.now _
theorem specImageApply (im : List ByteArray) (l : List Stp) (hz : spec_l07Zero.f = some zero8) : Ev (fun k => spec_ImageApply.f k im l) (applyM im l) := by
  unfold spec_ImageApply.f applyM
  by_cases g1 : (im.length : Int) > 400
  · simp only [if_pos g1, if_pos (show (im.length : Int) > 400 ∨ (l.length : Int) > 400 from .inl g1)]
    exact Ev.step (f := fun _ => some ([], 2)) (fun k => by rw [spec_ImageApply.j0, if_pos rfl]; rfl) (Ev.now _)
  · simp only [if_neg g1]
    by_cases g2 : (l.length : Int) > 400
    · rw [if_pos (.inr g2), decide_eq_true g2]
      exact Ev.step (f := fun _ => some ([], 2)) (fun k => by rw [spec_ImageApply.j0, if_pos rfl]; rfl) (Ev.now _)
    · rw [if_neg (by omega), decide_eq_false g2]
      refine Ev.step (fun k => by rw [spec_ImageApply.j0, if_neg (by decide)]) (Ev.bind (specImage im) ?_)
      by_cases hi : imageM im = true
      · simp only [if_pos hi]
        refine Ev.bind (specCode l im.length) ?_
        by_cases hc : codeM l im.length = 0
        · simp only [if_pos hc]
          obtain ⟨hl, hst⟩ := code_steps hc
          have hn := image_len hi
          refine Ev.bind (a := applyGo im im l) ?_ (Ev.now _)
          unfold spec_l07Apply.f
          simp only [Option.bind_some, List.length_nil, List.nil_append, if_pos (show 0 + im.length < 8796093022208 by omega)]
          exact specApply im hi hz l.length (by omega) l [] im (by simp) rfl hst
        · simp only [if_neg hc]; unfold spec_l07Ill.f; exact Ev.now _
      · simp only [if_neg hi]; unfold spec_l07Ill.f; exact Ev.now _
end Go.Proofs.Ytholfbdbgginpaa.Pure
namespace Go.Proofs.Ytholfbdbgginpaa.Pure
set_option linter.unusedVariables false
set_option linter.unusedSimpArgs false
open Go Go.RowKit Go.Proofs.Ytholfbdbgginpaa.Q Go.Proofs.YtholfbdbgginpaaW.PrintWords Go.Proofs.YtholfbdbgginpaaW.PrintLast Go.Proofs.YtholfbdbgginpaaW.PrintMore
def marksT : Int → Nat → List ByteArray
  | _, 0 => []
  | m, n + 1 => markT m :: marksT (m + 1) n
theorem markStr_l0 (N : Nat) (hN : N < 1000000000000000000) (r : List ByteArray) : ∀ (p : List ByteArray) (m : Int), p.length + r.length = N → 0 ≤ m → m + r.length ≤ 4000000000000000000 →
    Ev (fun k => laws_markStringS.l0 k (p ++ r) m (p.length : Int)) (m + r.length, p ++ marksT m r.length) := by
  induction r with
  | nil => intro p m h h0 h1; exact Ev.step (fun k => by rw [laws_markStringS.l0, if_neg (not_lt_end p)]) (by simpa [marksT] using Ev.now _)
  | cons a r ih =>
    intro p m h h0 h1
    simp only [List.length_cons] at h h1
    refine Ev.step (fun k => by rw [laws_markStringS.l0, if_pos (lt_mid p a r), next64 (by omega), wrap64_id (n := m + 1) (by omega) (by omega)]) ?_
    refine Ev.bind (markText m (by omega)) ?_
    simp only [if_pos (show (0 : Int) ≤ (p.length : Int) by omega)]
    have := ih (p ++ [markT m]) (m + 1) (by simp; omega) (by omega) (by omega)
    rw [← snoc_app, lenS_snoc, List.append_assoc] at this
    rw [List.length_cons, marksT, show m + ((r.length + 1 : Nat) : Int) = m + 1 + (r.length : Int) by omega]
    simp only [set_mid]
    exact this
theorem markStr (l : List ByteArray) (m : Int) (h : l.length < 1000000000000000000) (h0 : 0 ≤ m) (h1 : m + l.length ≤ 4000000000000000000) : Ev (fun k => laws_markStringS.f k l m) (m + l.length, marksT m l.length) := by
  unfold laws_markStringS.f
  have := markStr_l0 l.length h l [] m (by simp) h0 h1
  exact this
theorem heldStr_l0 (N : Nat) (hN : N < 1000000000000000000) (n : Nat) : ∀ (p : List ByteArray) (m : Int), p.length + n = N → 0 ≤ m → m + n ≤ 4000000000000000000 →
    Ev (fun k => laws_heldStringS.l0 k (p ++ marksT m n) m (p.length : Int)) (m + n) := by
  induction n with
  | zero => intro p m h h0 h1; rw [marksT]; exact Ev.step (fun k => by rw [laws_heldStringS.l0, if_neg (not_lt_end p)]) (by simpa using Ev.now _)
  | succ n ih =>
    intro p m h h0 h1
    rw [marksT]
    refine Ev.step (fun k => by rw [laws_heldStringS.l0, if_pos (lt_mid p _ _), if_pos (by omega), rdS_mid, next64 (by omega), wrap64_id (n := m + 1) (by omega) (by omega)]) ?_
    refine Ev.bind (markText m (by omega)) ?_
    simp only [if_true]
    have := ih (p ++ [markT m]) (m + 1) (by simp; omega) (by omega) (by omega)
    rw [← snoc_app, lenS_snoc] at this
    rw [show m + ((n + 1 : Nat) : Int) = m + 1 + (n : Int) by omega]
    exact this
theorem heldStr (n : Nat) (m : Int) (h : n < 1000000000000000000) (h0 : 0 ≤ m) (h1 : m + n ≤ 4000000000000000000) : Ev (fun k => laws_heldStringS.f k (marksT m n) m) (m + n) := by
  unfold laws_heldStringS.f
  exact heldStr_l0 n h n [] m (by simp) h0 h1
end Go.Proofs.Ytholfbdbgginpaa.Pure
namespace Go.Proofs.Ytholfbdbgginpaa.Pure
set_option linter.unusedVariables false
set_option linter.unusedSimpArgs false
open Go Go.RowKit Go.Proofs.Ytholfbdbgginpaa.Q Go.Proofs.YtholfbdbgginpaaW.PrintWords Go.Proofs.YtholfbdbgginpaaW.PrintLast Go.Proofs.YtholfbdbgginpaaW.PrintMore
theorem toStr_l0 (N : Nat) (hN : N < 9223372036854775807) (r : List ByteArray) : ∀ p : List ByteArray, p.length + r.length = N →
    Ev (fun k => laws_toStringS.l0 k (p ++ r) (p ++ List.replicate r.length (⟨#[]⟩ : ByteArray)) (p.length : Int)) (p ++ r) := by
  induction r with
  | nil => intro p h; exact Ev.step (fun k => by rw [laws_toStringS.l0, if_neg (not_lt_end p)]) (by simpa using Ev.now _)
  | cons a r ih =>
    intro p h
    simp only [List.length_cons] at h
    refine Ev.step (fun k => by rw [laws_toStringS.l0, if_pos (lt_mid p a r), if_pos (by omega), List.length_cons, List.replicate_succ, if_pos (lt_mid p _ _), rdS_mid, set_mid, next64 (by omega)]) ?_
    have := ih (p ++ [a]) (by simp; omega)
    rw [← snoc_app, lenS_snoc, List.append_assoc] at this
    exact this
theorem toStr (l : List ByteArray) (h : l.length ≤ 17592186044416) : Ev (fun k => laws_toStringS.f k l) l := by
  unfold laws_toStringS.f
  simp only [if_pos (show (0 : Int) ≤ (l.length : Int) by omega), Int.toNat_natCast, if_pos h]
  exact toStr_l0 l.length (by omega) l [] (by simp)
theorem szStr_l0 (N : Nat) (hN : N ≤ 1048576) (r : List ByteArray) : ∀ (p : List ByteArray) (x : Int), p.length + r.length = N → 0 ≤ x → x ≤ 1048576 → (∀ s ∈ r, s.size ≤ 9223372036854775807) →
    ∃ v, Ev (fun k => laws_szStringS.l0 k (p ++ r) x (p.length : Int)) v ∧ -1 ≤ v ∧ v ≤ 1048576 := by
  induction r with
  | nil => intro p x h h0 h1 _; exact ⟨x, Ev.step (fun k => by rw [laws_szStringS.l0, if_neg (not_lt_end p)]) (Ev.now _), by omega, by omega⟩
  | cons a r ih =>
    intro p x h h0 h1 hs
    simp only [List.length_cons] at h
    have ha := hs a (by simp)
    by_cases g : x - (a.size : Int) < 0
    · refine ⟨-1, Ev.step (fun k => by rw [laws_szStringS.l0, if_pos (lt_mid p a r), if_pos (by omega), rdS_mid, wrap64_id (n := x - (a.size : Int)) (by omega) (by omega), if_pos g]) (Ev.now _), by omega, by omega⟩
    · obtain ⟨v, e, b0, b1⟩ := ih (p ++ [a]) (x - (a.size : Int)) (by simp; omega) (by omega) (by omega) (fun s h => hs s (by simp [h]))
      rw [← snoc_app, lenS_snoc] at e
      exact ⟨v, Ev.step (fun k => by rw [laws_szStringS.l0, if_pos (lt_mid p a r), if_pos (by omega), rdS_mid, wrap64_id (n := x - (a.size : Int)) (by omega) (by omega), if_neg g, next64 (by omega)]) e, b0, b1⟩
theorem szStr2 (l : List ByteArray) (hl : l.length ≤ 9223372036854775807) (hs : ∀ s ∈ l, s.size ≤ 9223372036854775807) : ∃ v, Ev (fun k => laws_szStringS.f k l 1048576) v ∧ (¬ v < 0 → l.length ≤ 1048576) ∧ -1 ≤ v ∧ v ≤ 1048576 := by
  unfold laws_szStringS.f
  rw [wrap64_id (n := 1048576 - (l.length : Int)) (by omega) (by omega)]
  by_cases g : 1048576 - (l.length : Int) < 0
  · exact ⟨-1, by simp only [if_pos g]; exact Ev.now _, by omega, by omega, by omega⟩
  · obtain ⟨v, e, b0, b1⟩ := szStr_l0 l.length (by omega) l [] (1048576 - (l.length : Int)) (by simp) (by omega) (by omega) hs
    exact ⟨v, by simp only [if_neg g]; exact e, by omega, b0, b1⟩
end Go.Proofs.Ytholfbdbgginpaa.Pure
namespace Go.Proofs.Ytholfbdbgginpaa.Pure
set_option linter.unusedVariables false
set_option linter.unusedSimpArgs false
open Go Go.RowKit Go.Proofs.Ytholfbdbgginpaa.Q Go.Proofs.Ytholfbdbgginpaa.Open Go.Proofs.YtholfbdbgginpaaW.PrintWords Go.Proofs.YtholfbdbgginpaaW.PrintLast Go.Proofs.YtholfbdbgginpaaW.PrintMore
theorem eqIO (l : List ByteArray) (c : Int) (h : l.length < 9223372036854775807) : Ev (fun k => laws_eqImageOut.f k l c l c) true := by
  unfold laws_eqImageOut.f
  refine Ev.bind (eqStr l h) ?_
  simp only [if_true]
  exact Ev.now _
theorem markIO (l : List ByteArray) (c m : Int) (h : l.length < 1000000000000000000) (h0 : 0 ≤ m) (h1 : m + l.length ≤ 4000000000000000000) : Ev (fun k => laws_markImageOut.f k l c m) (m + l.length, marksT m l.length) := by
  unfold laws_markImageOut.f
  exact Ev.bind (markStr l m h h0 h1) (Ev.now _)
theorem heldIO (n : Nat) (c m : Int) (h : n < 1000000000000000000) (h0 : 0 ≤ m) (h1 : m + n ≤ 4000000000000000000) : Ev (fun k => laws_heldImageOut.f k (marksT m n) c m) (m + n) := by
  unfold laws_heldImageOut.f
  refine Ev.bind (heldStr n m h h0 h1) ?_
  simp only [if_neg (show ¬ m + (n : Int) < 0 by omega)]
  exact Ev.now _
theorem FnExactImageApply : ∀ (im : List ByteArray) (l0 : List LStep), okList okStr im → okList (fun x : LStep => okInt .i64 x.f0 ∧ okInt .i64 x.f1 ∧ okInt .i64 x.f2 ∧ okStr x.f3) l0 → ∃ k, laws_FnExactImageApply.f k im l0 = some true := by
  intro im l okm ok
  refine Ev.rounds ?_
  have hM : maxLen ≤ 9223372036854775807 := by decide
  unfold laws_FnExactImageApply.f
  obtain ⟨v, e, hv, v0, v1⟩ := szStr2 im (Nat.le_trans okm.1 hM) (fun s hs => Nat.le_trans (okm.2 s hs) hM)
  refine Ev.bind e ?_
  by_cases g : v < 0
  · simp only [if_pos g]; exact Ev.now _
  · have hlm := hv g
    simp only [if_neg g]
    obtain ⟨v2, e2, hv2, _, _⟩ := szSt2 l v (by omega) v1 (Nat.le_trans ok.1 hM) (fun s hs => Nat.le_trans (ok.2 s hs).2.2.2 hM)
    refine Ev.bind e2 ?_
    by_cases g2 : v2 < 0
    · simp only [if_pos g2]; exact Ev.now _
    · have hl := hv2 g2
      simp only [if_neg g2]
      have tm := toStr im (by omega)
      have hto := toSt l (by omega)
      have hE : (l.map stpOf).length = l.length := by simp
      generalize l.map stpOf = L at hto hE
      have hi := implImageApply im L (by omega) (by omega)
      have hs := specImageApply im L (by unfold spec_l07Zero.f; rw [if_pos (by decide)]; rfl)
      have hR := applyM_length im L
      refine Ev.bind tm (Ev.bind hto (Ev.bind hs (Ev.bind tm (Ev.bind hto (Ev.bind hi ?_)))))
      generalize applyM im L = R at hi hs hR ⊢
      refine Ev.bind (eqIO R.1 R.2 (by omega)) ?_
      simp only [if_true]
      refine Ev.bind tm (Ev.bind (eqStr im (by omega)) ?_)
      simp only [if_true]
      refine Ev.bind hto (Ev.bind (eqSt L (by omega)) ?_)
      simp only [if_true]
      refine Ev.bind (markStr im 1 (by omega) (by omega) (by omega)) (Ev.bind (markStp L (1 + im.length) (by omega) (by omega) (by omega)) ?_)
      simp only [if_neg (show ¬ (1 + (im.length : Int) + 4 * (L.length : Int)) < 0 by omega)]
      refine Ev.bind (eqIO R.1 R.2 (by omega)) (Ev.step (fun k => by rw [laws_FnExactImageApply.j0, if_neg (by decide)]) ?_)
      refine Ev.bind (markIO R.1 R.2 1 (by omega) (by omega) (by omega)) (Ev.bind (heldIO R.1.length R.2 1 (by omega) (by omega) (by omega)) ?_)
      simp only [if_neg (show ¬ (1 + (R.1.length : Int)) < 0 by omega), if_true]
      refine Ev.bind tm (Ev.bind hto (Ev.bind hi (Ev.bind (eqIO R.1 R.2 (by omega)) ?_)))
      simp only [if_true]
      refine Ev.bind (heldIO R.1.length R.2 1 (by omega) (by omega) (by omega)) ?_
      simp only [if_neg (show ¬ (1 + (R.1.length : Int)) < 0 by omega), if_true]
      exact Ev.now _
end Go.Proofs.Ytholfbdbgginpaa.Pure
