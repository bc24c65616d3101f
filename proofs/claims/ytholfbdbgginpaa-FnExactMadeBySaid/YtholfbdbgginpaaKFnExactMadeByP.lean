/- Pure texts in one: The program's MadeBy and the reference's MadeBy return the same text, for every image and step; the image stays as it was. -/
import Derived.Test.YtholfbdbgginpaaKFnExactMadeBy0
import Derived.Test.YtholfbdbgginpaaKFnExactMadeBy1
import Derived.Test.YtholfbdbgginpaaKFnExactMadeBy2
import Derived.Test.YtholfbdbgginpaaKFnExactMadeBy3
import Derived.Test.YtholfbdbgginpaaKFnExactMadeBy4
import Derived.Test.YtholfbdbgginpaaWMore
import Derived.ProofKit
import Derived.WalkKit
import Derived.Deep.Slices
import Derived.DataReads
import Derived.Laws.BitsAllLaws
import Derived.Laws.Strings
namespace Go.Proofs.Ytholfbdbgginpaa.Open
set_option linter.unusedVariables false
set_option linter.unusedSimpArgs false
open Go Go.RowKit Go.Deep Go.Proofs.YtholfbdbgginpaaW.PrintWords Go.Proofs.YtholfbdbgginpaaW.PrintLast Go.Proofs.YtholfbdbgginpaaW.PrintMore
/-- Cells of type t that can be read as data are a value of the kind d, for which ok holds. -/
def Opens {α : Type} (d : Kd α) (ok : α → Prop) (P : Program) (t : TypeId) : Prop :=
  ∀ (H : Type) (enc : TypeId × Value → H) (W : World) (base : Nat) (spare : Nat → Bool) (held : Bool) (fuel : Nat) (cs : List Value) (x : DataW H × List MemPlace),
    DataW.trod enc P W base spare held fuel t cs = some x → ∃ a : α, d.K W a cs ∧ ok a
def okInt (k : IntKind) (n : Int) : Prop := (Lit.int k n).wf = true
def okStr (s : ByteArray) : Prop := s.size ≤ maxLen
def okList {α : Type} (ok : α → Prop) (l : List α) : Prop := l.length ≤ maxLen ∧ ∀ a ∈ l, ok a
theorem opens_int {P : Program} {t : TypeId} {k : IntKind} (ht : P.underlying t = some (.int k)) : Opens (Kd.int k) (okInt k) P t := by
  intro H enc W base spare held fuel cs x h
  obtain ⟨n, rfl, _, hw⟩ := DataW.trod_int ht h
  exact ⟨n, rfl, hw⟩
theorem opens_string {P : Program} {t : TypeId} (ht : P.underlying t = some .string) : Opens Kd.string okStr P t := by
  intro H enc W base spare held fuel cs x h
  obtain ⟨s, rfl, _, hw⟩ := DataW.trod_string ht h
  exact ⟨s, rfl, hw⟩
theorem cells_at {w : World} {base : Nat} {a : Addr} {n : Nat} {cs : List Value} (h : w.cells? base a n = some cs) : cs.length = n ∧ ∀ i u, cs[i]? = some u → w.cell? (a.add i) = some u := by
  unfold World.cells? at h
  split at h
  · have hl : cs.length = n := by simpa using mapM_some_length h
    refine ⟨hl, fun i u hi => ?_⟩
    have hil : i < cs.length := (List.getElem?_eq_some_iff.1 hi).1
    have := mapM_some_get h i i (by rw [List.getElem?_range (by omega)])
    rw [this, hi]
  · cases h
theorem opens_slice {α : Type} {d : Kd α} {ok : α → Prop} {P : Program} {t e : TypeId} (z : α) (ht : P.underlying t = some (.slice e)) (hc : P.cellsOf e = d.sz) (he : Opens d ok P e) : Opens (Kd.slice e d) (okList ok) P t := by
  intro H enc W base spare held fuel cs x h
  rcases open_slice ht h with ⟨rfl, _⟩ | ⟨a, len, cap, m, n, D, Pl, rfl, _, hl, hm, hmeq, _, hel⟩
  · exact ⟨[], ⟨none, 0, rfl, Nat.le_refl _, rfl, by simp, fun hp => by simp at hp⟩, by simp [okList], by simp⟩
  · have hlm : len ≤ m := by rw [hmeq]; split <;> omega
    have key : ∀ i, i < len → ∃ y : α, ok y ∧ ∃ c, c.length = d.sz ∧ d.K W y c ∧ ∀ j u, c[j]? = some u → W.cell? (a.add (i * d.sz + j)) = some u := by
      intro i hi
      obtain ⟨cs', h1, h2⟩ := hel i (by omega)
      obtain ⟨y, hy, hok⟩ := he H enc W base spare held n cs' _ h2
      have hca := cells_at h1
      refine ⟨y, hok, cs', by rw [hca.1, hc], hy, fun j u hj => ?_⟩
      have := hca.2 j u hj
      rw [Go.Deep.add_add, hc] at this
      exact this
    let f : Nat → α := fun i => if h : i < len then (key i h).choose else z
    have hf : ∀ i (h : i < len), f i = (key i h).choose := fun i h => by simp only [f]; rw [dif_pos h]
    have hlen : ((List.range len).map f).length = len := by simp
    have hmax : (9223372036854775807 : Nat) ≥ maxLen := by unfold maxLen; omega
    refine ⟨(List.range len).map f, ⟨some a, cap, by rw [hlen], by rw [hlen]; exact hl, ?_⟩, by rw [hlen]; omega, fun y hy => ?_⟩
    · rw [hlen]
      refine ⟨hlen, by omega, fun _ => ⟨a, rfl, fun j p hj => ?_⟩⟩
      have hj' : j < len := by have := (List.getElem?_eq_some_iff.1 hj).1; rwa [hlen] at this
      have e : p = f j := by
        rw [List.getElem?_map, List.getElem?_range hj'] at hj
        simpa using hj.symm
      subst e
      rw [hf j hj']
      obtain ⟨_, c, h1, h2, h3⟩ := (key j hj').choose_spec
      exact ⟨c, h1, h2, h3⟩
    · obtain ⟨i, hi, rfl⟩ := List.mem_map.1 hy
      have hi' : i < len := by simpa using hi
      rw [hf i hi']
      exact (key i hi').choose_spec.1
/-- The fields fs, the first at cell off, tell a value of the kind d. -/
def OpensFs {α : Type} (d : Kd α) (ok : α → Prop) (P : Program) (fs : List Field) (off : Nat) : Prop :=
  ∀ (H : Type) (enc : TypeId × Value → H) (W : World) (base : Nat) (spare : Nat → Bool) (held : Bool) (n : Nat) (cs : List Value), cs.length = off + d.sz →
    (∀ f, f ∈ fs → ∃ y, DataW.trod enc P W base spare held n f.type ((cs.drop f.offset).take (P.cellsOf f.type)) = some y) → ∃ a : α, d.K W a (cs.drop off) ∧ ok a
theorem opensFs_one {α : Type} {d : Kd α} {ok : α → Prop} {P : Program} {f : Field} {off : Nat} (ho : f.offset = off) (hc : P.cellsOf f.type = d.sz) (h : Opens d ok P f.type) : OpensFs d ok P [f] off := by
  intro H enc W base spare held n cs hl hf
  obtain ⟨y, hy⟩ := hf f (by simp)
  rw [ho, hc, List.take_of_length_le (by rw [List.length_drop]; omega)] at hy
  exact h H enc W base spare held n _ _ hy
theorem opensFs_cons {α β : Type} {a : Kd α} {b : Kd β} {oka : α → Prop} {okb : β → Prop} {P : Program} {f : Field} {fs : List Field} {off : Nat} (ho : f.offset = off) (hc : P.cellsOf f.type = a.sz) (h : Opens a oka P f.type) (hs : OpensFs b okb P fs (off + a.sz)) :
    OpensFs (Kd.pair a b) (fun x => oka x.1 ∧ okb x.2) P (f :: fs) off := by
  intro H enc W base spare held n cs hl hf
  have hsz : (Kd.pair a b).sz = a.sz + b.sz := rfl
  rw [hsz] at hl
  obtain ⟨y, hy⟩ := hf f (by simp)
  rw [ho, hc] at hy
  obtain ⟨p, hp, hpo⟩ := h H enc W base spare held n _ _ hy
  obtain ⟨q, hq, hqo⟩ := hs H enc W base spare held n cs (by omega) (fun g hg => hf g (by simp [hg]))
  refine ⟨(p, q), ⟨(cs.drop off).take a.sz, cs.drop (off + a.sz), ?_, hp, hq⟩, hpo, hqo⟩
  rw [← List.drop_drop, List.take_append_drop]
theorem opens_struct {α β : Type} {d : Kd α} {ok : α → Prop} {P : Program} {t : TypeId} {fs : Array Field} (f : β → α) (g : α → β) (hfg : ∀ a, f (g a) = a) (ht : P.underlying t = some (.struct fs)) (hc : P.cellsOf t = d.sz) (h : OpensFs d ok P fs.toList 0) : Opens (Kd.iso d f) (fun x => ok (f x)) P t := by
  intro H enc W base spare held fuel cs x hx
  obtain ⟨xs, n, _, rfl, hl, hlen, hf⟩ := DataW.trod_struct ht hx
  obtain ⟨a, ha, hok⟩ := h H enc W base spare held n cs (by omega) (fun f hf' => by
    obtain ⟨i, hi⟩ := List.getElem?_of_mem hf'
    have hi2 : fs[i]? = some f := by rw [← hi]; simp
    have := hf i f hi2
    have hil : i < xs.length := by rw [hlen]; exact (Array.getElem?_eq_some_iff.1 hi2).1
    rw [List.getElem?_eq_getElem hil] at this
    exact ⟨_, this⟩)
  exact ⟨g a, by show d.K W (f (g a)) cs; rw [hfg]; simpa using ha, by show ok (f (g a)); rw [hfg]; exact hok⟩
end Go.Proofs.Ytholfbdbgginpaa.Open
namespace Go.Proofs.Ytholfbdbgginpaa.Pure
set_option linter.unusedVariables false
set_option linter.unusedSimpArgs false
open Go Go.RowKit Go.Proofs.YtholfbdbgginpaaW.PrintWords Go.Proofs.YtholfbdbgginpaaW.PrintLast Go.Proofs.YtholfbdbgginpaaW.PrintMore
theorem wrap64_id {n : Int} (h0 : -9223372036854775808 ≤ n) (h1 : n ≤ 9223372036854775807) : wrap64 n = n := by
  unfold wrap64; omega
end Go.Proofs.Ytholfbdbgginpaa.Pure
namespace Go.Proofs.Ytholfbdbgginpaa.Pure
set_option linter.unusedVariables false
set_option linter.unusedSimpArgs false
open Go Go.RowKit Go.Proofs.YtholfbdbgginpaaW.PrintWords Go.Proofs.YtholfbdbgginpaaW.PrintLast Go.Proofs.YtholfbdbgginpaaW.PrintMore
theorem set_mid {α : Type} (p : List α) (a b : α) (r : List α) : (p ++ a :: r).set (p.length : Int).toNat b = p ++ b :: r := by simp
theorem snoc_app {α : Type} (p : List α) (a : α) (r : List α) : p ++ a :: r = (p ++ [a]) ++ r := by simp
theorem lt_mid {α : Type} (p : List α) (a : α) (r : List α) : (p.length : Int) < ((p ++ a :: r).length : Int) := by rw [List.length_append, List.length_cons]; omega
theorem not_lt_end {α : Type} (p : List α) : ¬ (p.length : Int) < ((p ++ []).length : Int) := by rw [List.append_nil]; omega
theorem next64 {i : Nat} (h : i < 9223372036854775807) : wrap64 ((i : Int) + 1) = ((i + 1 : Nat) : Int) := by rw [wrap64_id (by omega) (by omega)]; omega
end Go.Proofs.Ytholfbdbgginpaa.Pure
namespace Go.Proofs.Ytholfbdbgginpaa.Pure
set_option linter.unusedVariables false
set_option linter.unusedSimpArgs false
open Go Go.RowKit Go.Proofs.Ytholfbdbgginpaa.Q Go.Proofs.YtholfbdbgginpaaW.PrintWords Go.Proofs.YtholfbdbgginpaaW.PrintLast Go.Proofs.YtholfbdbgginpaaW.PrintMore
theorem rdS_mid (p : List ByteArray) (a : ByteArray) (r : List ByteArray) : rdOf ByteArray.empty (p ++ a :: r) (p.length : Int) = a := by simp [rdOf]
theorem lenS_snoc {α : Type} (q : List α) (e : α) : (q ++ [e]).length = q.length + 1 := by simp
theorem eqStr_l0 (N : Nat) (hN : N < 9223372036854775807) (r : List ByteArray) : ∀ p : List ByteArray, p.length + r.length = N → Ev (fun k => laws_eqStringS.l0 k (p ++ r) (p ++ r) (p.length : Int)) true := by
  induction r with
  | nil => intro p h; exact Ev.step (fun k => by rw [laws_eqStringS.l0, if_neg (not_lt_end p)]) (Ev.now _)
  | cons a r ih =>
    intro p h
    simp only [List.length_cons] at h
    refine Ev.step (fun k => by rw [laws_eqStringS.l0, if_pos (lt_mid p a r), if_pos (by omega), if_pos (lt_mid p a r), if_pos rfl, next64 (by omega)]) ?_
    have := ih (p ++ [a]) (by simp; omega)
    rw [← snoc_app, lenS_snoc] at this
    exact this
theorem eqStr (l : List ByteArray) (h : l.length < 9223372036854775807) : Ev (fun k => laws_eqStringS.f k l l) true := by
  unfold laws_eqStringS.f
  simp only [if_true]
  exact eqStr_l0 l.length h l [] (by simp)
end Go.Proofs.Ytholfbdbgginpaa.Pure
namespace Go.Proofs.Ytholfbdbgginpaa.Pure
set_option linter.unusedVariables false
set_option linter.unusedSimpArgs false
open Go Go.RowKit Go.Proofs.Ytholfbdbgginpaa.Q Go.Proofs.YtholfbdbgginpaaW.PrintWords Go.Proofs.YtholfbdbgginpaaW.PrintLast Go.Proofs.YtholfbdbgginpaaW.PrintMore
def imageM (l : List ByteArray) : Bool := decide (1 ≤ (l.length : Int) ∧ (l.length : Int) ≤ 8) && !(l.any (fun s => (s.size : Int) != 8))
theorem implImage (l : List ByteArray) (h : l.length ≤ 9223372036854775807) : impl_isImage.f l = some (imageM l) := by
  unfold impl_isImage.f imageM
  rw [if_pos h]
theorem specImage_l0 (N : Nat) (hN : N ≤ 1000) (r : List ByteArray) : ∀ p : List ByteArray, p.length + r.length = N → Ev (fun k => spec_ImageRight.l0 k (p ++ r) (p.length : Int)) (!(r.any (fun s => (s.size : Int) != 8))) := by
  induction r with
  | nil => intro p h; exact Ev.step (f := fun _ => some true) (fun k => by rw [spec_ImageRight.l0, if_neg (not_lt_end p)]) (Ev.now _)
  | cons a r ih =>
    intro p h
    simp only [List.length_cons] at h
    refine Ev.step (fun k => by rw [spec_ImageRight.l0, if_pos (lt_mid p a r), if_pos (by omega), rdS_mid, next64 (by omega)]) ?_
    rw [List.any_cons]
    by_cases g : (a.size : Int) = 8
    · simp only [if_pos g, show ((a.size : Int) != 8) = false from bne_eq_false_iff_eq.2 g, Bool.false_or]
      have := ih (p ++ [a]) (by simp; omega)
      rw [← snoc_app, lenS_snoc] at this
      exact this
    · simp only [if_neg g, show ((a.size : Int) != 8) = true from bne_iff_ne.2 g, Bool.true_or, Bool.not_true]
      exact Ev.now _
theorem specImage (l : List ByteArray) : Ev (fun k => spec_ImageRight.f k l) (imageM l) := by
  unfold spec_ImageRight.f imageM
  by_cases h1 : (l.length : Int) < 1
  · simp only [if_pos h1, decide_eq_false (show ¬ (1 ≤ (l.length : Int) ∧ (l.length : Int) ≤ 8) by omega), Bool.false_and]
    exact Ev.step (fun k => by rw [spec_ImageRight.j0, if_pos rfl]) (Ev.now _)
  · simp only [if_neg h1]
    by_cases h2 : (l.length : Int) > 8
    · rw [decide_eq_true h2, decide_eq_false (show ¬ (1 ≤ (l.length : Int) ∧ (l.length : Int) ≤ 8) by omega), Bool.false_and]
      exact Ev.step (fun k => by rw [spec_ImageRight.j0, if_pos rfl]) (Ev.now _)
    · rw [decide_eq_false h2, decide_eq_true (show 1 ≤ (l.length : Int) ∧ (l.length : Int) ≤ 8 by omega), Bool.true_and]
      have := specImage_l0 l.length (by omega) l [] (by simp)
      exact Ev.step (f := fun k => spec_ImageRight.l0 k l 0) (fun k => by rw [spec_ImageRight.j0, if_neg (by decide)]) this
end Go.Proofs.Ytholfbdbgginpaa.Pure
namespace Go.Proofs.Ytholfbdbgginpaa.Pure
set_option linter.unusedVariables false
set_option linter.unusedSimpArgs false
open Go Go.RowKit Go.Proofs.Ytholfbdbgginpaa.Q Go.Proofs.YtholfbdbgginpaaW.PrintWords Go.Proofs.YtholfbdbgginpaaW.PrintLast Go.Proofs.YtholfbdbgginpaaW.PrintMore
theorem within_eq (a b c : Int) : impl_within.f a b c = some (decide (b ≤ a ∧ a ≤ c)) := by
  unfold impl_within.f
  by_cases h : a ≥ b
  · rw [if_pos h]; congr 1; rw [Bool.eq_iff_iff]; simp; omega
  · rw [if_neg h]; congr 1; simp; omega
theorem l03Is_eq (a b c : Int) : spec_l03Is.f a b c = some (decide (b ≤ a ∧ a ≤ c)) := by
  unfold spec_l03Is.f
  by_cases h : a ≥ b
  · rw [if_pos h]; congr 1; rw [Bool.eq_iff_iff]; simp; omega
  · rw [if_neg h]; congr 1; simp; omega
end Go.Proofs.Ytholfbdbgginpaa.Pure
namespace Go.Proofs.Ytholfbdbgginpaa.Pure
set_option linter.unusedVariables false
set_option linter.unusedSimpArgs false
open Go Go.RowKit Go.Proofs.Ytholfbdbgginpaa.Q Go.Proofs.YtholfbdbgginpaaW.PrintWords Go.Proofs.YtholfbdbgginpaaW.PrintLast Go.Proofs.YtholfbdbgginpaaW.PrintMore
def emp (d : ByteArray) : Bool := d.toList == ([] : List UInt8)
def e8 (d : ByteArray) : Bool := (d.size : Int) == 8
def inr (x hi : Int) : Bool := decide (0 ≤ x ∧ x ≤ hi)
def stepM (k b c : Int) (d : ByteArray) (n : Int) : Bool :=
  if k = 1 then inr b (n - 1) && (c == 0) && emp d
  else if k = 2 then inr b (n - 1) && (c == 0) && e8 d
  else if k = 3 then inr b (n - 1) && inr c (n - 1) && emp d
  else if k = 4 then inr b (n - 1) && inr c (n - 1) && e8 d
  else if k = 5 then (b == 0) && inr c 1000000 && emp d
  else false
theorem specStep (k b c : Int) (d : ByteArray) (n : Int) (h : 1 ≤ n ∧ n ≤ 8) : spec_StepRight.f k b c d n = some (stepM k b c d n) := by
  unfold spec_StepRight.f stepM inr emp e8
  rw [wrap64_id (n := n - 1) (by omega) (by omega)]
  simp only [l03Is_eq, Option.bind_some, decide_eq_true h, if_true]
  generalize decide (0 ≤ b ∧ b ≤ n - 1) = t1
  generalize decide (0 ≤ c ∧ c ≤ n - 1) = t2
  generalize decide (0 ≤ c ∧ c ≤ 1000000) = t3
  generalize (d.toList == ([] : List UInt8)) = t4
  generalize ((d.size : Int) == 8) = t5
  have q : ∀ x y : Int, (x == y) = decide (x = y) := fun x y => by rw [Bool.eq_iff_iff]; simp
  by_cases k1 : k = 1
  · simp only [if_pos k1, q]; by_cases hc : c = 0 <;> cases t1 <;> simp [hc]
  · simp only [if_neg k1]
    by_cases k2 : k = 2
    · simp only [if_pos k2, q]; by_cases hc : c = 0 <;> cases t1 <;> simp [hc]
    · simp only [if_neg k2]
      by_cases k3 : k = 3
      · simp only [if_pos k3]; cases t1 <;> cases t2 <;> simp
      · simp only [if_neg k3]
        by_cases k4 : k = 4
        · simp only [if_pos k4]; cases t1 <;> cases t2 <;> simp
        · simp only [if_neg k4]
          by_cases k5 : k = 5
          · simp only [if_pos k5, q]; by_cases hb : b = 0 <;> cases t3 <;> simp [hb]
          · simp only [if_neg k5]
def j3M (k b c : Int) (x5 x6 x7 : Bool) : Bool := if k = 5 then (b == 0) && inr c 1000000 && x7 else decide (1 ≤ k ∧ k ≤ 5) && x5 && x6 && x7
theorem isStep_j3 (k b c : Int) (d : ByteArray) (x5 x6 x7 : Bool) : Ev (fun m => impl_isStep.j3 m x5 x6 x7 k b c d) (j3M k b c x5 x6 x7) := by
  refine Ev.step (fun m => by rw [impl_isStep.j3, impl_isTime.f, within_eq, within_eq]) ?_
  simp only [Option.bind_some]
  unfold j3M inr
  generalize decide (0 ≤ c ∧ c ≤ 1000000) = t3
  by_cases k5 : k = 5
  · simp only [if_pos k5, decide_eq_true (show 1 ≤ k ∧ k ≤ 5 by omega), if_true]
    by_cases hb : b = 0
    · cases t3
      · simp only [if_pos hb, Bool.false_eq_true, if_false, Bool.and_false, Bool.false_and]; exact Ev.now _
      · simp only [if_pos hb, if_true, hb, beq_self_eq_true, Bool.true_and]; exact Ev.now _
    · simp only [if_neg hb, show (b == 0) = false from beq_eq_false_iff_ne.2 hb, Bool.false_and]; exact Ev.now _
  · simp only [if_neg k5]
    generalize decide (1 ≤ k ∧ k ≤ 5) = t1
    cases t1
    · simp only [Bool.false_eq_true, if_false, Bool.false_and]; exact Ev.now _
    · cases x5
      · simp only [Bool.false_eq_true, if_false, if_true, Bool.false_and, Bool.true_and]; exact Ev.now _
      · cases x6
        · simp only [Bool.false_eq_true, if_false, if_true, Bool.false_and, Bool.true_and]; exact Ev.now _
        · simp only [if_true, Bool.true_and]; exact Ev.now _
theorem isStep_j2 (k b c : Int) (d : ByteArray) (x5 x6 x7 x39 : Bool) : Ev (fun m => impl_isStep.j2 m x5 x6 x7 x39 k b c d) (j3M k b c x5 x6 (if x39 = true then e8 d else x7)) := by
  refine Ev.step (fun m => by rw [impl_isStep.j2]) ?_
  by_cases h : x39 = true
  · simp only [if_pos h]; exact isStep_j3 k b c d x5 x6 _
  · simp only [if_neg h]; exact isStep_j3 k b c d x5 x6 x7
theorem isStep_j1 (k b c : Int) (d : ByteArray) (x5 x6 x7 : Bool) : Ev (fun m => impl_isStep.j1 m x5 x6 x7 k b c d) (j3M k b c x5 x6 (if k = 2 ∨ k = 4 then e8 d else x7)) := by
  refine Ev.step (fun m => by rw [impl_isStep.j1]) ?_
  by_cases h : k = 2
  · simp only [if_pos h, if_pos (show k = 2 ∨ k = 4 from .inl h)]
    have := isStep_j2 k b c d x5 x6 x7 true
    simpa using this
  · simp only [if_neg h]
    have := isStep_j2 k b c d x5 x6 x7 (k == 4)
    by_cases h4 : k = 4
    · rw [if_pos (.inr h4)]; rw [if_pos (by simp [h4])] at this; exact this
    · rw [if_neg (by omega)]; rw [if_neg (by simp [h4])] at this; exact this
theorem isStep_j0 (k b c : Int) (d : ByteArray) (n : Int) (h : 1 ≤ n ∧ n ≤ 8) (x5 x6 x7 x26 : Bool) : Ev (fun m => impl_isStep.j0 m n x5 x6 x7 x26 k b c d) (j3M k b c x5 (if x26 = true then inr c (n - 1) else x6) (if k = 2 ∨ k = 4 then e8 d else x7)) := by
  refine Ev.step (fun m => by rw [impl_isStep.j0, wrap64_id (n := n - 1) (by omega) (by omega), within_eq]) ?_
  by_cases h : x26 = true
  · simp only [if_pos h, Option.bind_some]; exact isStep_j1 k b c d x5 _ x7
  · simp only [if_neg h]; exact isStep_j1 k b c d x5 x6 x7
theorem implStep (k b c : Int) (d : ByteArray) (n : Int) (h : 1 ≤ n ∧ n ≤ 8) : Ev (fun m => impl_isStep.f m k b c d n) (stepM k b c d n) := by
  have key : Ev (fun m => impl_isStep.j0 m n (inr b (n - 1)) (c == 0) (emp d) (decide (k = 3 ∨ k = 4)) k b c d) (stepM k b c d n) := by
    have := isStep_j0 k b c d n h (inr b (n - 1)) (c == 0) (emp d) (decide (k = 3 ∨ k = 4))
    have e : j3M k b c (inr b (n - 1)) (if decide (k = 3 ∨ k = 4) = true then inr c (n - 1) else (c == 0)) (if k = 2 ∨ k = 4 then e8 d else emp d) = stepM k b c d n := by
      unfold j3M stepM
      by_cases k1 : k = 1
      · subst k1; simp
      · by_cases k2 : k = 2
        · subst k2; simp
        · by_cases k3 : k = 3
          · subst k3; simp
          · by_cases k4 : k = 4
            · subst k4; simp
            · by_cases k5 : k = 5
              · subst k5; simp
              · rw [if_neg k5, if_neg k1, if_neg k2, if_neg k3, if_neg k4, if_neg k5, decide_eq_false (show ¬ (1 ≤ k ∧ k ≤ 5) by omega)]; simp
    rw [e] at this
    exact this
  unfold impl_isStep.f
  rw [wrap64_id (n := n - 1) (by omega) (by omega), within_eq]
  simp only [Option.bind_some]
  by_cases k3 : k = 3
  · simp only [if_pos k3]
    rw [decide_eq_true (show k = 3 ∨ k = 4 from .inl k3)] at key
    exact key
  · simp only [if_neg k3]
    rw [show decide (k = 3 ∨ k = 4) = (k == 4) by rw [Bool.eq_iff_iff]; simp [k3]] at key
    exact key
end Go.Proofs.Ytholfbdbgginpaa.Pure
namespace Go.Proofs.Ytholfbdbgginpaa.Pure
set_option linter.unusedVariables false
set_option linter.unusedSimpArgs false
open Go Go.RowKit Go.Proofs.Ytholfbdbgginpaa.Q Go.Proofs.YtholfbdbgginpaaW.PrintWords Go.Proofs.YtholfbdbgginpaaW.PrintLast Go.Proofs.YtholfbdbgginpaaW.PrintMore
theorem xs_length (a b : ByteArray) : ∀ k, (impl_xored.xs a b k).length = k := by
  intro k
  induction k with
  | zero => rfl
  | succ k ih => simp [impl_xored.xs, ih]
def xorM (a b : ByteArray) : ByteArray := strOfNums (impl_xored.xs a b 8)
theorem implXored (a b : ByteArray) (ha : a.size = 8) (hb : b.size = 8) : impl_xored.f a b = some (xorM a b) := by
  unfold impl_xored.f xorM
  rw [ha, if_pos ⟨by omega, by omega⟩]
theorem specXored_l0 (a b : ByteArray) (ha : a.size = 8) (hb : b.size = 8) (d : Nat) : ∀ i : Nat, i + d = 8 →
    Ev (fun k => spec_Xored.l0 k a b (impl_xored.xs a b i ++ List.replicate d 0) (i : Int)) (xorM a b) := by
  induction d with
  | zero =>
    intro i h
    obtain rfl : i = 8 := by omega
    exact Ev.step (fun k => by rw [spec_Xored.l0, if_neg (by omega), List.replicate_zero, List.append_nil]; rfl) (Ev.now _)
  | succ d ih =>
    intro i h
    have := ih (i + 1) (by omega)
    refine Ev.step (fun k => ?_) this
    have e1 : wrap64 ((i : Int) + 1) = ((i + 1 : Nat) : Int) := by rw [wrap64_id (by omega) (by omega)]; omega
    have e2 : (impl_xored.xs a b i ++ (0 : Int) :: List.replicate d 0).set (i : Int).toNat (Go.bits .xor .u8 (bt a i) (bt b i)) = impl_xored.xs a b (i + 1) ++ List.replicate d 0 := by
      have hl := xs_length a b i
      rw [impl_xored.xs, List.append_assoc, Int.toNat_natCast]
      conv => lhs; rw [show i = (impl_xored.xs a b i).length from hl.symm]
      simp [hl]
    have hlen : ((impl_xored.xs a b i ++ List.replicate (d + 1) (0 : Int)).length : Int) = 8 := by
      rw [List.length_append, xs_length, List.length_replicate]; omega
    rw [spec_Xored.l0, if_pos (by omega), if_pos (by omega), if_pos (by omega), if_pos (by omega), hlen, if_pos (by omega), List.replicate_succ, e2, e1]
theorem specXored (a b : ByteArray) : Ev (fun k => spec_Xored.f k a b) (if a.size = 8 ∧ b.size = 8 then xorM a b else ⟨#[]⟩) := by
  unfold spec_Xored.f
  by_cases ha : a.size = 8
  · simp only [if_pos (show (a.size : Int) = 8 by omega)]
    by_cases hb : b.size = 8
    · rw [if_pos ⟨ha, hb⟩, show ((b.size : Int) != 8) = false by simp [hb]]
      have := specXored_l0 a b ha hb 8 0 rfl
      exact Ev.step (fun k => by rw [spec_Xored.j0, if_neg (by decide), if_pos (by decide)]; rfl) this
    · rw [if_neg (fun h => hb h.2), show ((b.size : Int) != 8) = true by simp; omega]
      exact Ev.step (fun k => by rw [spec_Xored.j0, if_pos rfl]) (Ev.now _)
  · simp only [if_neg (show ¬ (a.size : Int) = 8 by omega)]
    rw [if_neg (fun h => ha h.1)]
    exact Ev.step (fun k => by rw [spec_Xored.j0, if_pos rfl]) (Ev.now _)
end Go.Proofs.Ytholfbdbgginpaa.Pure
namespace Go.Proofs.Ytholfbdbgginpaa.Pure
set_option linter.unusedVariables false
set_option linter.unusedSimpArgs false
open Go Go.RowKit Go.Proofs.Ytholfbdbgginpaa.Q Go.Proofs.YtholfbdbgginpaaW.PrintWords Go.Proofs.YtholfbdbgginpaaW.PrintLast Go.Proofs.YtholfbdbgginpaaW.PrintMore
def zero8 : ByteArray := (⟨#[0, 0, 0, 0, 0, 0, 0, 0]⟩ : ByteArray)
def makeM (k : Int) (d s : ByteArray) : ByteArray := if k = 1 then zero8 else if k = 2 then d else if k = 3 then s else xorM s d
theorem step_from {k b c : Int} {d : ByteArray} {n : Int} (h : stepM k b c d n = true) (hk : ¬ k = 5) (hn : 1 ≤ n) : (0 ≤ c ∧ c ≤ n - 1) ∧ (¬ k = 1 → ¬ k = 2 → ¬ k = 3 → d.size = 8) := by
  unfold stepM inr e8 at h
  by_cases k1 : k = 1
  · rw [if_pos k1] at h
    simp only [Bool.and_eq_true, decide_eq_true_eq, beq_iff_eq] at h
    exact ⟨by omega, fun x => absurd k1 x⟩
  · rw [if_neg k1] at h
    by_cases k2 : k = 2
    · rw [if_pos k2] at h
      simp only [Bool.and_eq_true, decide_eq_true_eq, beq_iff_eq] at h
      exact ⟨by omega, fun _ x => absurd k2 x⟩
    · rw [if_neg k2] at h
      by_cases k3 : k = 3
      · rw [if_pos k3] at h
        simp only [Bool.and_eq_true, decide_eq_true_eq] at h
        exact ⟨h.1.2, fun _ _ x => absurd k3 x⟩
      · rw [if_neg k3] at h
        by_cases k4 : k = 4
        · rw [if_pos k4] at h
          simp only [Bool.and_eq_true, decide_eq_true_eq, beq_iff_eq] at h
          exact ⟨h.1.2, fun _ _ _ => by omega⟩
        · rw [if_neg k4, if_neg hk] at h
          exact absurd h (by decide)
theorem implMake (k b c : Int) (d s : ByteArray) (hs : s.size = 8) (hd : ¬ k = 1 → ¬ k = 2 → ¬ k = 3 → d.size = 8) : impl_madeBy.f k b c d s = some (makeM k d s) := by
  unfold impl_madeBy.f makeM
  by_cases k1 : k = 1
  · rw [if_pos k1, if_pos k1]; rfl
  · rw [if_neg k1, if_neg k1]
    by_cases k2 : k = 2
    · rw [if_pos k2, if_pos k2]
    · rw [if_neg k2, if_neg k2]
      by_cases k3 : k = 3
      · rw [if_pos k3, if_pos k3]
      · rw [if_neg k3, if_neg k3, implXored s d hs (hd k1 k2 k3)]; rfl
theorem specMake (k b c : Int) (d s : ByteArray) (hs : s.size = 8) (hd : ¬ k = 1 → ¬ k = 2 → ¬ k = 3 → d.size = 8) (hz : spec_l07Zero.f = some zero8) : Ev (fun m => spec_l07Make.f m k b c d s) (makeM k d s) := by
  unfold spec_l07Make.f makeM
  by_cases k1 : k = 1
  · simp only [if_pos k1, hz, Option.bind_some]; exact Ev.now _
  · simp only [if_neg k1]
    by_cases k2 : k = 2
    · simp only [if_pos k2]; exact Ev.now _
    · simp only [if_neg k2]
      by_cases k3 : k = 3
      · simp only [if_pos k3]; exact Ev.now _
      · simp only [if_neg k3]
        have := specXored s d
        rw [if_pos ⟨hs, hd k1 k2 k3⟩] at this
        exact Ev.bind this (Ev.now _)
def madeM (l : List ByteArray) (k b c : Int) (d : ByteArray) : ByteArray :=
  if (imageM l = true ∧ stepM k b c d l.length = true) ∧ ¬ k = 5 then makeM k d (rdOf ByteArray.empty l c) else ⟨#[]⟩
theorem image_at {l : List ByteArray} {c : Int} (h : imageM l = true) (h0 : 0 ≤ c) (h1 : c < (l.length : Int)) : (rdOf ByteArray.empty l c).size = 8 := by
  unfold imageM at h
  simp only [Bool.and_eq_true, Bool.not_eq_true', List.any_eq_false, bne_iff_ne, ne_eq, Decidable.not_not] at h
  have hl : c.toNat < l.length := by omega
  have e : rdOf ByteArray.empty l c = l[c.toNat] := by simp [rdOf, hl]
  rw [e]
  have := h.2 l[c.toNat] (List.getElem_mem hl)
  omega
theorem image_len {l : List ByteArray} (h : imageM l = true) : 1 ≤ (l.length : Int) ∧ (l.length : Int) ≤ 8 := by
  unfold imageM at h
  rw [Bool.and_eq_true, decide_eq_true_iff] at h
  exact h.1
theorem implMade (l : List ByteArray) (k b c : Int) (d : ByteArray) (hl : l.length ≤ 9223372036854775807) : Ev (fun m => impl_MadeBy.f m l k b c d) (madeM l k b c d) := by
  unfold impl_MadeBy.f
  unfold impl_size_string.f
  rw [implImage l hl]
  simp only [Option.bind_some]
  unfold madeM
  by_cases hi : imageM l = true
  · have hn := image_len hi
    simp only [if_pos hi]
    refine Ev.bind (implStep k b c d l.length hn) ?_
    by_cases hs : stepM k b c d l.length = true
    · simp only [if_pos hs]
      by_cases k5 : k = 5
      · simp only [if_pos k5, if_neg (show ¬ ((imageM l = true ∧ stepM k b c d l.length = true) ∧ ¬ k = 5) from fun h => h.2 k5)]; exact Ev.now _
      · obtain ⟨⟨c0, c1⟩, hd⟩ := step_from hs k5 hn.1
        simp only [if_neg k5, if_pos (show (imageM l = true ∧ stepM k b c d l.length = true) ∧ ¬ k = 5 from ⟨⟨hi, hs⟩, k5⟩), if_pos c0, if_pos (show c < (l.length : Int) by omega)]
        rw [implMake k b c d _ (image_at hi c0 (by omega)) hd]
        simp only [Option.bind_some]
        exact Ev.now _
    · simp only [if_neg hs, if_neg (show ¬ ((imageM l = true ∧ stepM k b c d l.length = true) ∧ ¬ k = 5) from fun h => hs h.1.2)]; exact Ev.now _
  · simp only [if_neg hi, if_neg (show ¬ ((imageM l = true ∧ stepM k b c d l.length = true) ∧ ¬ k = 5) from fun h => hi h.1.1)]; exact Ev.now _
theorem specMade (l : List ByteArray) (k b c : Int) (d : ByteArray) (hz : spec_l07Zero.f = some zero8) : Ev (fun m => spec_MadeBy.f m l k b c d) (madeM l k b c d) := by
  unfold spec_MadeBy.f
  refine Ev.bind (specImage l) ?_
  unfold madeM
  by_cases hi : imageM l = true
  · have hn := image_len hi
    simp only [if_pos hi]
    by_cases k5 : k = 5
    · simp only [if_pos k5, if_neg (show ¬ ((imageM l = true ∧ stepM k b c d l.length = true) ∧ ¬ k = 5) from fun h => h.2 k5)]; exact Ev.now _
    · simp only [if_neg k5]
      rw [specStep k b c d l.length hn]
      simp only [Option.bind_some]
      by_cases hs : stepM k b c d l.length = true
      · obtain ⟨⟨c0, c1⟩, hd⟩ := step_from hs k5 hn.1
        simp only [if_pos hs, if_pos (show (imageM l = true ∧ stepM k b c d l.length = true) ∧ ¬ k = 5 from ⟨⟨hi, hs⟩, k5⟩), if_pos c0, if_pos (show c < (l.length : Int) by omega)]
        exact Ev.bind (specMake k b c d _ (image_at hi c0 (by omega)) hd hz) (Ev.now _)
      · simp only [if_neg hs, if_neg (show ¬ ((imageM l = true ∧ stepM k b c d l.length = true) ∧ ¬ k = 5) from fun h => hs h.1.2)]; exact Ev.now _
  · simp only [if_neg hi, if_neg (show ¬ ((imageM l = true ∧ stepM k b c d l.length = true) ∧ ¬ k = 5) from fun h => hi h.1.1)]; exact Ev.now _
end Go.Proofs.Ytholfbdbgginpaa.Pure
namespace Go.Proofs.Ytholfbdbgginpaa.Pure
set_option linter.unusedVariables false
set_option linter.unusedSimpArgs false
open Go Go.RowKit Go.Proofs.Ytholfbdbgginpaa.Q Go.Proofs.YtholfbdbgginpaaW.PrintWords Go.Proofs.YtholfbdbgginpaaW.PrintLast Go.Proofs.YtholfbdbgginpaaW.PrintMore
theorem toStr_l0 (N : Nat) (hN : N < 9223372036854775807) (r : List ByteArray) : ∀ p : List ByteArray, p.length + r.length = N →
    Ev (fun k => laws_toStringS.l0 k (p ++ r) (p ++ List.replicate r.length (⟨#[]⟩ : ByteArray)) (p.length : Int)) (p ++ r) := by
  induction r with
  | nil => intro p h; exact Ev.step (fun k => by rw [laws_toStringS.l0, if_neg (not_lt_end p)]) (by simpa using Ev.now _)
  | cons a r ih =>
    intro p h
    simp only [List.length_cons] at h
    refine Ev.step (fun k => by rw [laws_toStringS.l0, if_pos (lt_mid p a r), if_pos (by omega), List.length_cons, List.replicate_succ, if_pos (lt_mid p _ _), rdS_mid, set_mid, next64 (by omega)]) ?_
    have := ih (p ++ [a]) (by simp; omega)
    rw [← snoc_app, lenS_snoc, List.append_assoc] at this
    exact this
theorem toStr (l : List ByteArray) (h : l.length ≤ 17592186044416) : Ev (fun k => laws_toStringS.f k l) l := by
  unfold laws_toStringS.f
  simp only [if_pos (show (0 : Int) ≤ (l.length : Int) by omega), Int.toNat_natCast, if_pos h]
  exact toStr_l0 l.length (by omega) l [] (by simp)
theorem szStr_l0 (N : Nat) (hN : N ≤ 1048576) (r : List ByteArray) : ∀ (p : List ByteArray) (x : Int), p.length + r.length = N → 0 ≤ x → x ≤ 1048576 → (∀ s ∈ r, s.size ≤ 9223372036854775807) →
    ∃ v, Ev (fun k => laws_szStringS.l0 k (p ++ r) x (p.length : Int)) v ∧ -1 ≤ v ∧ v ≤ 1048576 := by
  induction r with
  | nil => intro p x h h0 h1 _; exact ⟨x, Ev.step (fun k => by rw [laws_szStringS.l0, if_neg (not_lt_end p)]) (Ev.now _), by omega, by omega⟩
  | cons a r ih =>
    intro p x h h0 h1 hs
    simp only [List.length_cons] at h
    have ha := hs a (by simp)
    by_cases g : x - (a.size : Int) < 0
    · refine ⟨-1, Ev.step (fun k => by rw [laws_szStringS.l0, if_pos (lt_mid p a r), if_pos (by omega), rdS_mid, wrap64_id (n := x - (a.size : Int)) (by omega) (by omega), if_pos g]) (Ev.now _), by omega, by omega⟩
    · obtain ⟨v, e, b0, b1⟩ := ih (p ++ [a]) (x - (a.size : Int)) (by simp; omega) (by omega) (by omega) (fun s h => hs s (by simp [h]))
      rw [← snoc_app, lenS_snoc] at e
      exact ⟨v, Ev.step (fun k => by rw [laws_szStringS.l0, if_pos (lt_mid p a r), if_pos (by omega), rdS_mid, wrap64_id (n := x - (a.size : Int)) (by omega) (by omega), if_neg g, next64 (by omega)]) e, b0, b1⟩
theorem szStr2 (l : List ByteArray) (hl : l.length ≤ 9223372036854775807) (hs : ∀ s ∈ l, s.size ≤ 9223372036854775807) : ∃ v, Ev (fun k => laws_szStringS.f k l 1048576) v ∧ (¬ v < 0 → l.length ≤ 1048576) ∧ -1 ≤ v ∧ v ≤ 1048576 := by
  unfold laws_szStringS.f
  rw [wrap64_id (n := 1048576 - (l.length : Int)) (by omega) (by omega)]
  by_cases g : 1048576 - (l.length : Int) < 0
  · exact ⟨-1, by simp only [if_pos g]; exact Ev.now _, by omega, by omega, by omega⟩
  · obtain ⟨v, e, b0, b1⟩ := szStr_l0 l.length (by omega) l [] (1048576 - (l.length : Int)) (by simp) (by omega) (by omega) hs
    exact ⟨v, by simp only [if_neg g]; exact e, by omega, b0, b1⟩
end Go.Proofs.Ytholfbdbgginpaa.Pure
namespace Go.Proofs.Ytholfbdbgginpaa.Pure
set_option linter.unusedVariables false
set_option linter.unusedSimpArgs false
open Go Go.RowKit Go.Proofs.Ytholfbdbgginpaa.Q Go.Proofs.Ytholfbdbgginpaa.Open Go.Proofs.YtholfbdbgginpaaW.PrintWords Go.Proofs.YtholfbdbgginpaaW.PrintLast Go.Proofs.YtholfbdbgginpaaW.PrintMore
theorem FnExactMadeBy : ∀ (l : List ByteArray) (k b c : Int) (d : ByteArray), okList okStr l → (okInt .i64 k ∧ okInt .i64 b ∧ okInt .i64 c ∧ okStr d) → ∃ m, laws_FnExactMadeBy.f m l k b c d = some true := by
  intro l k b c d ok okd
  refine Ev.rounds ?_
  have hM : maxLen ≤ 9223372036854775807 := by decide
  have hd : d.size ≤ 9223372036854775807 := Nat.le_trans okd.2.2.2 hM
  obtain ⟨v, e, hv, v0, v1⟩ := szStr2 l (Nat.le_trans ok.1 hM) (fun s hs => Nat.le_trans (ok.2 s hs) hM)
  unfold laws_FnExactMadeBy.f
  refine Ev.bind e ?_
  by_cases g : v < 0
  · simp only [if_pos g]; exact Ev.now _
  · have hl := hv g
    simp only [if_neg g]
    unfold laws_szStep.f laws_toStep.f
    rw [wrap64_id (n := v - (d.size : Int)) (by omega) (by omega)]
    by_cases g2 : v - (d.size : Int) < 0
    · simp only [if_pos g2, Option.bind_some, show (-1 : Int) < 0 by decide, if_true]; exact Ev.now _
    · simp only [if_neg g2, Option.bind_some]
      have t := toStr l (by omega)
      refine Ev.bind t (Ev.bind (specMade l k b c d (by unfold spec_l07Zero.f; rw [if_pos (by decide)]; rfl)) (Ev.bind t (Ev.bind (implMade l k b c d (by omega)) ?_)))
      simp only [if_true]
      refine Ev.bind t (Ev.bind (eqStr l (by omega)) ?_)
      simp only [if_true]
      exact Ev.now _
end Go.Proofs.Ytholfbdbgginpaa.Pure
