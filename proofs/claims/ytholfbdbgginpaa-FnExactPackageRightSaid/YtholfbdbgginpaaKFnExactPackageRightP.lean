/- Pure texts in one: The program's PackageRight and the reference's PackageRight return the same, for every package; the package stays as it was. -/
import Derived.Test.YtholfbdbgginpaaKFnExactPackageRight0
import Derived.Test.YtholfbdbgginpaaKFnExactPackageRight1
import Derived.Test.YtholfbdbgginpaaKFnExactPackageRight2
import Derived.Test.YtholfbdbgginpaaKFnExactPackageRight3
import Derived.Test.YtholfbdbgginpaaKFnExactPackageRight4
import Derived.Test.YtholfbdbgginpaaWMore
import Derived.ProofKit
import Derived.WalkKit
import Derived.Deep.Slices
import Derived.DataReads
import Derived.Laws.BitsAllLaws
import Derived.Laws.Strings
namespace Go.Proofs.Ytholfbdbgginpaa.Open
set_option linter.unusedVariables false
set_option linter.unusedSimpArgs false
open Go Go.RowKit Go.Deep Go.Proofs.YtholfbdbgginpaaW.PrintWords Go.Proofs.YtholfbdbgginpaaW.PrintLast Go.Proofs.YtholfbdbgginpaaW.PrintMore
/-- Cells of type t that can be read as data are a value of the kind d, for which ok holds. -/
def Opens {α : Type} (d : Kd α) (ok : α → Prop) (P : Program) (t : TypeId) : Prop :=
  ∀ (H : Type) (enc : TypeId × Value → H) (W : World) (base : Nat) (spare : Nat → Bool) (held : Bool) (fuel : Nat) (cs : List Value) (x : DataW H × List MemPlace),
    DataW.trod enc P W base spare held fuel t cs = some x → ∃ a : α, d.K W a cs ∧ ok a
def okInt (k : IntKind) (n : Int) : Prop := (Lit.int k n).wf = true
def okStr (s : ByteArray) : Prop := s.size ≤ maxLen
def okList {α : Type} (ok : α → Prop) (l : List α) : Prop := l.length ≤ maxLen ∧ ∀ a ∈ l, ok a
theorem opens_int {P : Program} {t : TypeId} {k : IntKind} (ht : P.underlying t = some (.int k)) : Opens (Kd.int k) (okInt k) P t := by
  intro H enc W base spare held fuel cs x h
  obtain ⟨n, rfl, _, hw⟩ := DataW.trod_int ht h
  exact ⟨n, rfl, hw⟩
theorem opens_string {P : Program} {t : TypeId} (ht : P.underlying t = some .string) : Opens Kd.string okStr P t := by
  intro H enc W base spare held fuel cs x h
  obtain ⟨s, rfl, _, hw⟩ := DataW.trod_string ht h
  exact ⟨s, rfl, hw⟩
theorem cells_at {w : World} {base : Nat} {a : Addr} {n : Nat} {cs : List Value} (h : w.cells? base a n = some cs) : cs.length = n ∧ ∀ i u, cs[i]? = some u → w.cell? (a.add i) = some u := by
  unfold World.cells? at h
  split at h
  · have hl : cs.length = n := by simpa using mapM_some_length h
    refine ⟨hl, fun i u hi => ?_⟩
    have hil : i < cs.length := (List.getElem?_eq_some_iff.1 hi).1
    have := mapM_some_get h i i (by rw [List.getElem?_range (by omega)])
    rw [this, hi]
  · cases h
theorem opens_slice {α : Type} {d : Kd α} {ok : α → Prop} {P : Program} {t e : TypeId} (z : α) (ht : P.underlying t = some (.slice e)) (hc : P.cellsOf e = d.sz) (he : Opens d ok P e) : Opens (Kd.slice e d) (okList ok) P t := by
  intro H enc W base spare held fuel cs x h
  rcases open_slice ht h with ⟨rfl, _⟩ | ⟨a, len, cap, m, n, D, Pl, rfl, _, hl, hm, hmeq, _, hel⟩
  · exact ⟨[], ⟨none, 0, rfl, Nat.le_refl _, rfl, by simp, fun hp => by simp at hp⟩, by simp [okList], by simp⟩
  · have hlm : len ≤ m := by rw [hmeq]; split <;> omega
    have key : ∀ i, i < len → ∃ y : α, ok y ∧ ∃ c, c.length = d.sz ∧ d.K W y c ∧ ∀ j u, c[j]? = some u → W.cell? (a.add (i * d.sz + j)) = some u := by
      intro i hi
      obtain ⟨cs', h1, h2⟩ := hel i (by omega)
      obtain ⟨y, hy, hok⟩ := he H enc W base spare held n cs' _ h2
      have hca := cells_at h1
      refine ⟨y, hok, cs', by rw [hca.1, hc], hy, fun j u hj => ?_⟩
      have := hca.2 j u hj
      rw [Go.Deep.add_add, hc] at this
      exact this
    let f : Nat → α := fun i => if h : i < len then (key i h).choose else z
    have hf : ∀ i (h : i < len), f i = (key i h).choose := fun i h => by simp only [f]; rw [dif_pos h]
    have hlen : ((List.range len).map f).length = len := by simp
    have hmax : (9223372036854775807 : Nat) ≥ maxLen := by unfold maxLen; omega
    refine ⟨(List.range len).map f, ⟨some a, cap, by rw [hlen], by rw [hlen]; exact hl, ?_⟩, by rw [hlen]; omega, fun y hy => ?_⟩
    · rw [hlen]
      refine ⟨hlen, by omega, fun _ => ⟨a, rfl, fun j p hj => ?_⟩⟩
      have hj' : j < len := by have := (List.getElem?_eq_some_iff.1 hj).1; rwa [hlen] at this
      have e : p = f j := by
        rw [List.getElem?_map, List.getElem?_range hj'] at hj
        simpa using hj.symm
      subst e
      rw [hf j hj']
      obtain ⟨_, c, h1, h2, h3⟩ := (key j hj').choose_spec
      exact ⟨c, h1, h2, h3⟩
    · obtain ⟨i, hi, rfl⟩ := List.mem_map.1 hy
      have hi' : i < len := by simpa using hi
      rw [hf i hi']
      exact (key i hi').choose_spec.1
/-- The fields fs, the first at cell off, tell a value of the kind d. -/
def OpensFs {α : Type} (d : Kd α) (ok : α → Prop) (P : Program) (fs : List Field) (off : Nat) : Prop :=
  ∀ (H : Type) (enc : TypeId × Value → H) (W : World) (base : Nat) (spare : Nat → Bool) (held : Bool) (n : Nat) (cs : List Value), cs.length = off + d.sz →
    (∀ f, f ∈ fs → ∃ y, DataW.trod enc P W base spare held n f.type ((cs.drop f.offset).take (P.cellsOf f.type)) = some y) → ∃ a : α, d.K W a (cs.drop off) ∧ ok a
theorem opensFs_one {α : Type} {d : Kd α} {ok : α → Prop} {P : Program} {f : Field} {off : Nat} (ho : f.offset = off) (hc : P.cellsOf f.type = d.sz) (h : Opens d ok P f.type) : OpensFs d ok P [f] off := by
  intro H enc W base spare held n cs hl hf
  obtain ⟨y, hy⟩ := hf f (by simp)
  rw [ho, hc, List.take_of_length_le (by rw [List.length_drop]; omega)] at hy
  exact h H enc W base spare held n _ _ hy
theorem opensFs_cons {α β : Type} {a : Kd α} {b : Kd β} {oka : α → Prop} {okb : β → Prop} {P : Program} {f : Field} {fs : List Field} {off : Nat} (ho : f.offset = off) (hc : P.cellsOf f.type = a.sz) (h : Opens a oka P f.type) (hs : OpensFs b okb P fs (off + a.sz)) :
    OpensFs (Kd.pair a b) (fun x => oka x.1 ∧ okb x.2) P (f :: fs) off := by
  intro H enc W base spare held n cs hl hf
  have hsz : (Kd.pair a b).sz = a.sz + b.sz := rfl
  rw [hsz] at hl
  obtain ⟨y, hy⟩ := hf f (by simp)
  rw [ho, hc] at hy
  obtain ⟨p, hp, hpo⟩ := h H enc W base spare held n _ _ hy
  obtain ⟨q, hq, hqo⟩ := hs H enc W base spare held n cs (by omega) (fun g hg => hf g (by simp [hg]))
  refine ⟨(p, q), ⟨(cs.drop off).take a.sz, cs.drop (off + a.sz), ?_, hp, hq⟩, hpo, hqo⟩
  rw [← List.drop_drop, List.take_append_drop]
theorem opens_struct {α β : Type} {d : Kd α} {ok : α → Prop} {P : Program} {t : TypeId} {fs : Array Field} (f : β → α) (g : α → β) (hfg : ∀ a, f (g a) = a) (ht : P.underlying t = some (.struct fs)) (hc : P.cellsOf t = d.sz) (h : OpensFs d ok P fs.toList 0) : Opens (Kd.iso d f) (fun x => ok (f x)) P t := by
  intro H enc W base spare held fuel cs x hx
  obtain ⟨xs, n, _, rfl, hl, hlen, hf⟩ := DataW.trod_struct ht hx
  obtain ⟨a, ha, hok⟩ := h H enc W base spare held n cs (by omega) (fun f hf' => by
    obtain ⟨i, hi⟩ := List.getElem?_of_mem hf'
    have hi2 : fs[i]? = some f := by rw [← hi]; simp
    have := hf i f hi2
    have hil : i < xs.length := by rw [hlen]; exact (Array.getElem?_eq_some_iff.1 hi2).1
    rw [List.getElem?_eq_getElem hil] at this
    exact ⟨_, this⟩)
  exact ⟨g a, by show d.K W (f (g a)) cs; rw [hfg]; simpa using ha, by show ok (f (g a)); rw [hfg]; exact hok⟩
end Go.Proofs.Ytholfbdbgginpaa.Open
namespace Go.Proofs.Ytholfbdbgginpaa.Pure
set_option linter.unusedVariables false
set_option linter.unusedSimpArgs false
open Go Go.RowKit Go.Proofs.YtholfbdbgginpaaW.PrintWords Go.Proofs.YtholfbdbgginpaaW.PrintLast Go.Proofs.YtholfbdbgginpaaW.PrintMore
theorem wrap64_id {n : Int} (h0 : -9223372036854775808 ≤ n) (h1 : n ≤ 9223372036854775807) : wrap64 n = n := by
  unfold wrap64; omega
theorem Ev.ok {α : Type} {g : Nat → Option α} {r : α} {K : Nat} (h : ∀ k, K ≤ k → g k = some r) : Ev g r := ⟨K, h⟩
/-- One is known without rounds. -/
theorem Ev.bind1 {α β : Type} {g : Option α} {f : Nat → α → Option β} {a : α} {r : β} (h : g = some a) (k : Ev (fun n => f n a) r) : Ev (fun n => g.bind (f n)) r := by
  subst h
  exact k
end Go.Proofs.Ytholfbdbgginpaa.Pure
namespace Go.Proofs.Ytholfbdbgginpaa.Pure
set_option linter.unusedVariables false
set_option linter.unusedSimpArgs false
open Go Go.RowKit Go.Proofs.YtholfbdbgginpaaW.PrintWords Go.Proofs.YtholfbdbgginpaaW.PrintLast Go.Proofs.YtholfbdbgginpaaW.PrintMore
theorem set_mid {α : Type} (p : List α) (a b : α) (r : List α) : (p ++ a :: r).set (p.length : Int).toNat b = p ++ b :: r := by simp
theorem snoc_app {α : Type} (p : List α) (a : α) (r : List α) : p ++ a :: r = (p ++ [a]) ++ r := by simp
theorem lt_mid {α : Type} (p : List α) (a : α) (r : List α) : (p.length : Int) < ((p ++ a :: r).length : Int) := by rw [List.length_append, List.length_cons]; omega
theorem not_lt_end {α : Type} (p : List α) : ¬ (p.length : Int) < ((p ++ []).length : Int) := by rw [List.append_nil]; omega
theorem next64 {i : Nat} (h : i < 9223372036854775807) : wrap64 ((i : Int) + 1) = ((i + 1 : Nat) : Int) := by rw [wrap64_id (by omega) (by omega)]; omega
end Go.Proofs.Ytholfbdbgginpaa.Pure
namespace Go.Proofs.Ytholfbdbgginpaa.Pure
set_option linter.unusedVariables false
set_option linter.unusedSimpArgs false
open Go Go.RowKit Go.Proofs.Ytholfbdbgginpaa.Q Go.Proofs.YtholfbdbgginpaaW.PrintWords Go.Proofs.YtholfbdbgginpaaW.PrintLast Go.Proofs.YtholfbdbgginpaaW.PrintMore
theorem lenS_snoc {α : Type} (q : List α) (e : α) : (q ++ [e]).length = q.length + 1 := by simp
end Go.Proofs.Ytholfbdbgginpaa.Pure
namespace Go.Proofs.Ytholfbdbgginpaa.Pure
set_option linter.unusedVariables false
set_option linter.unusedSimpArgs false
open Go Go.RowKit Go.Proofs.Ytholfbdbgginpaa.Q Go.Proofs.YtholfbdbgginpaaW.PrintWords Go.Proofs.YtholfbdbgginpaaW.PrintLast Go.Proofs.YtholfbdbgginpaaW.PrintMore
abbrev LStep := S23
abbrev Stp := S26
def stpOf (x : LStep) : Stp := ⟨x.f0, x.f1, x.f2, x.f3⟩
theorem rdLS_mid (p : List LStep) (a : LStep) (r : List LStep) : rd_T23 (p ++ a :: r) (p.length : Int) = a := by simp [rd_T23]
theorem rdSt_mid (p : List Stp) (a : Stp) (r : List Stp) : rd_T26 (p ++ a :: r) (p.length : Int) = a := by simp [rd_T26]
theorem toSt_l0 (N : Nat) (hN : N < 9223372036854775807) (r : List LStep) : ∀ p : List LStep, p.length + r.length = N →
    Ev (fun k => laws_toStepS.l0 k (p ++ r) (p.map stpOf ++ List.replicate r.length z26) (p.length : Int)) ((p ++ r).map stpOf) := by
  induction r with
  | nil => intro p h; exact Ev.step (fun k => by rw [laws_toStepS.l0, if_neg (not_lt_end p)]) (by simpa using Ev.now _)
  | cons a r ih =>
    intro p h
    simp only [List.length_cons] at h
    have hl : (p.length : Int) < ((p.map stpOf ++ List.replicate (a :: r).length z26).length : Int) := by simp only [List.length_append, List.length_map, List.length_replicate, List.length_cons]; omega
    refine Ev.step (fun k => by rw [laws_toStepS.l0, if_pos (lt_mid p a r), if_pos (by omega), rdLS_mid, next64 (by omega)]) ?_
    refine Ev.bind1 (a := (a.f0, a.f1, a.f2, a.f3)) (by unfold laws_toStep.f; rfl) ?_
    simp only [if_pos hl]
    have := ih (p ++ [a]) (by simp; omega)
    rw [← snoc_app, lenS_snoc] at this
    have e : (p.map stpOf ++ List.replicate (a :: r).length z26).set ((p.length : Nat) : Int).toNat (⟨a.f0, a.f1, a.f2, a.f3⟩ : Stp) = (p ++ [a]).map stpOf ++ List.replicate r.length z26 := by
      rw [List.length_cons, List.replicate_succ]
      have := set_mid (p.map stpOf) z26 (⟨a.f0, a.f1, a.f2, a.f3⟩ : Stp) (List.replicate r.length z26)
      rw [List.length_map] at this
      rw [this]; simp [stpOf]
    rw [← e] at this
    exact this
theorem toSt (l : List LStep) (h : l.length ≤ 7036874417766) : Ev (fun k => laws_toStepS.f k l) (l.map stpOf) := by
  unfold laws_toStepS.f
  simp only [if_pos (show (0 : Int) ≤ (l.length : Int) by omega), if_pos (show ((l.length : Int)).toNat ≤ 7036874417766 by omega), Int.toNat_natCast]
  have := toSt_l0 l.length (by omega) l [] (by simp)
  simpa [h] using this
theorem szSt_l0 (N : Nat) (hN : N ≤ 1048576) (r : List LStep) : ∀ (p : List LStep) (x : Int), p.length + r.length = N → 0 ≤ x → x ≤ 1048576 → (∀ s ∈ r, s.f3.size ≤ 9223372036854775807) →
    ∃ v, Ev (fun k => laws_szStepS.l0 k (p ++ r) x (p.length : Int)) v ∧ -1 ≤ v ∧ v ≤ 1048576 := by
  induction r with
  | nil => intro p x h h0 h1 _; exact ⟨x, Ev.step (fun k => by rw [laws_szStepS.l0, if_neg (not_lt_end p)]) (Ev.now _), by omega, by omega⟩
  | cons a r ih =>
    intro p x h h0 h1 hs
    simp only [List.length_cons] at h
    have ha := hs a (by simp)
    by_cases g : x - (a.f3.size : Int) < 0
    · refine ⟨-1, Ev.step (fun k => by rw [laws_szStepS.l0, if_pos (lt_mid p a r), if_pos (by omega), rdLS_mid]) (Ev.bind1 (a := -1) (by unfold laws_szStep.f; rw [wrap64_id (n := x - (a.f3.size : Int)) (by omega) (by omega), if_pos g]) ?_), by omega, by omega⟩
      simp only [show ((-1 : Int) < 0) from by decide, if_true]; exact Ev.now _
    · obtain ⟨v, e, b0, b1⟩ := ih (p ++ [a]) (x - (a.f3.size : Int)) (by simp; omega) (by omega) (by omega) (fun s h => hs s (by simp [h]))
      rw [← snoc_app, lenS_snoc] at e
      refine ⟨v, Ev.step (fun k => by rw [laws_szStepS.l0, if_pos (lt_mid p a r), if_pos (by omega), rdLS_mid, next64 (by omega)]) (Ev.bind1 (a := x - (a.f3.size : Int)) (by unfold laws_szStep.f; rw [wrap64_id (n := x - (a.f3.size : Int)) (by omega) (by omega), if_neg g]) ?_), b0, b1⟩
      simp only [if_neg g]; exact e
theorem szSt2 (l : List LStep) (x : Int) (h0 : 0 ≤ x) (h1 : x ≤ 1048576) (hl : l.length ≤ 9223372036854775807) (hs : ∀ s ∈ l, s.f3.size ≤ 9223372036854775807) : ∃ v, Ev (fun k => laws_szStepS.f k l x) v ∧ (¬ v < 0 → l.length ≤ 1048576) ∧ -1 ≤ v ∧ v ≤ 1048576 := by
  unfold laws_szStepS.f
  rw [wrap64_id (n := x - (l.length : Int)) (by omega) (by omega)]
  by_cases g : x - (l.length : Int) < 0
  · exact ⟨-1, by simp only [if_pos g]; exact Ev.now _, by omega, by omega, by omega⟩
  · obtain ⟨v, e, b0, b1⟩ := szSt_l0 l.length (by omega) l [] (x - (l.length : Int)) (by simp) (by omega) (by omega) hs
    exact ⟨v, by simp only [if_neg g]; exact e, by omega, b0, b1⟩
theorem eqSt_l0 (N : Nat) (hN : N < 9223372036854775807) (r : List Stp) : ∀ p : List Stp, p.length + r.length = N → Ev (fun k => laws_eqStepS.l0 k (p ++ r) (p ++ r) (p.length : Int)) true := by
  induction r with
  | nil => intro p h; exact Ev.step (fun k => by rw [laws_eqStepS.l0, if_neg (not_lt_end p)]) (Ev.now _)
  | cons a r ih =>
    intro p h
    simp only [List.length_cons] at h
    refine Ev.step (fun k => by rw [laws_eqStepS.l0, if_pos (lt_mid p a r), if_pos (by omega), if_pos (lt_mid p a r), rdSt_mid, next64 (by omega)]) ?_
    refine Ev.bind1 (a := true) (by unfold laws_eqStep.f; simp) ?_
    simp only [if_true]
    have := ih (p ++ [a]) (by simp; omega)
    rw [← snoc_app, lenS_snoc] at this
    exact this
theorem eqSt (l : List Stp) (h : l.length < 9223372036854775807) : Ev (fun k => laws_eqStepS.f k l l) true := by
  unfold laws_eqStepS.f
  simp only [if_true]
  exact eqSt_l0 l.length h l [] (by simp)
end Go.Proofs.Ytholfbdbgginpaa.Pure
namespace Go.Proofs.Ytholfbdbgginpaa.Pure
set_option linter.unusedVariables false
set_option linter.unusedSimpArgs false
open Go Go.RowKit Go.Proofs.Ytholfbdbgginpaa.Q Go.Proofs.YtholfbdbgginpaaW.PrintWords Go.Proofs.YtholfbdbgginpaaW.PrintLast Go.Proofs.YtholfbdbgginpaaW.PrintMore
theorem within_eq (a b c : Int) : impl_within.f a b c = some (decide (b ≤ a ∧ a ≤ c)) := by
  unfold impl_within.f
  by_cases h : a ≥ b
  · rw [if_pos h]; congr 1; rw [Bool.eq_iff_iff]; simp; omega
  · rw [if_neg h]; congr 1; simp; omega
theorem l03Is_eq (a b c : Int) : spec_l03Is.f a b c = some (decide (b ≤ a ∧ a ≤ c)) := by
  unfold spec_l03Is.f
  by_cases h : a ≥ b
  · rw [if_pos h]; congr 1; rw [Bool.eq_iff_iff]; simp; omega
  · rw [if_neg h]; congr 1; simp; omega
end Go.Proofs.Ytholfbdbgginpaa.Pure
namespace Go.Proofs.Ytholfbdbgginpaa.Pure
set_option linter.unusedVariables false
set_option linter.unusedSimpArgs false
open Go Go.RowKit Go.Proofs.Ytholfbdbgginpaa.Q Go.Proofs.YtholfbdbgginpaaW.PrintWords Go.Proofs.YtholfbdbgginpaaW.PrintLast Go.Proofs.YtholfbdbgginpaaW.PrintMore
def emp (d : ByteArray) : Bool := d.toList == ([] : List UInt8)
def e8 (d : ByteArray) : Bool := (d.size : Int) == 8
def inr (x hi : Int) : Bool := decide (0 ≤ x ∧ x ≤ hi)
def stepM (k b c : Int) (d : ByteArray) (n : Int) : Bool :=
  if k = 1 then inr b (n - 1) && (c == 0) && emp d
  else if k = 2 then inr b (n - 1) && (c == 0) && e8 d
  else if k = 3 then inr b (n - 1) && inr c (n - 1) && emp d
  else if k = 4 then inr b (n - 1) && inr c (n - 1) && e8 d
  else if k = 5 then (b == 0) && inr c 1000000 && emp d
  else false
theorem specStep (k b c : Int) (d : ByteArray) (n : Int) (h : 1 ≤ n ∧ n ≤ 8) : spec_StepRight.f k b c d n = some (stepM k b c d n) := by
  unfold spec_StepRight.f stepM inr emp e8
  rw [wrap64_id (n := n - 1) (by omega) (by omega)]
  simp only [l03Is_eq, Option.bind_some, decide_eq_true h, if_true]
  generalize decide (0 ≤ b ∧ b ≤ n - 1) = t1
  generalize decide (0 ≤ c ∧ c ≤ n - 1) = t2
  generalize decide (0 ≤ c ∧ c ≤ 1000000) = t3
  generalize (d.toList == ([] : List UInt8)) = t4
  generalize ((d.size : Int) == 8) = t5
  have q : ∀ x y : Int, (x == y) = decide (x = y) := fun x y => by rw [Bool.eq_iff_iff]; simp
  by_cases k1 : k = 1
  · simp only [if_pos k1, q]; by_cases hc : c = 0 <;> cases t1 <;> simp [hc]
  · simp only [if_neg k1]
    by_cases k2 : k = 2
    · simp only [if_pos k2, q]; by_cases hc : c = 0 <;> cases t1 <;> simp [hc]
    · simp only [if_neg k2]
      by_cases k3 : k = 3
      · simp only [if_pos k3]; cases t1 <;> cases t2 <;> simp
      · simp only [if_neg k3]
        by_cases k4 : k = 4
        · simp only [if_pos k4]; cases t1 <;> cases t2 <;> simp
        · simp only [if_neg k4]
          by_cases k5 : k = 5
          · simp only [if_pos k5, q]; by_cases hb : b = 0 <;> cases t3 <;> simp [hb]
          · simp only [if_neg k5]
def j3M (k b c : Int) (x5 x6 x7 : Bool) : Bool := if k = 5 then (b == 0) && inr c 1000000 && x7 else decide (1 ≤ k ∧ k ≤ 5) && x5 && x6 && x7
theorem isStep_j3 (k b c : Int) (d : ByteArray) (x5 x6 x7 : Bool) : Ev (fun m => impl_isStep.j3 m x5 x6 x7 k b c d) (j3M k b c x5 x6 x7) := by
  refine Ev.step (fun m => by rw [impl_isStep.j3, impl_isTime.f, within_eq, within_eq]) ?_
  simp only [Option.bind_some]
  unfold j3M inr
  generalize decide (0 ≤ c ∧ c ≤ 1000000) = t3
  by_cases k5 : k = 5
  · simp only [if_pos k5, decide_eq_true (show 1 ≤ k ∧ k ≤ 5 by omega), if_true]
    by_cases hb : b = 0
    · cases t3
      · simp only [if_pos hb, Bool.false_eq_true, if_false, Bool.and_false, Bool.false_and]; exact Ev.now _
      · simp only [if_pos hb, if_true, hb, beq_self_eq_true, Bool.true_and]; exact Ev.now _
    · simp only [if_neg hb, show (b == 0) = false from beq_eq_false_iff_ne.2 hb, Bool.false_and]; exact Ev.now _
  · simp only [if_neg k5]
    generalize decide (1 ≤ k ∧ k ≤ 5) = t1
    cases t1
    · simp only [Bool.false_eq_true, if_false, Bool.false_and]; exact Ev.now _
    · cases x5
      · simp only [Bool.false_eq_true, if_false, if_true, Bool.false_and, Bool.true_and]; exact Ev.now _
      · cases x6
        · simp only [Bool.false_eq_true, if_false, if_true, Bool.false_and, Bool.true_and]; exact Ev.now _
        · simp only [if_true, Bool.true_and]; exact Ev.now _
theorem isStep_j2 (k b c : Int) (d : ByteArray) (x5 x6 x7 x39 : Bool) : Ev (fun m => impl_isStep.j2 m x5 x6 x7 x39 k b c d) (j3M k b c x5 x6 (if x39 = true then e8 d else x7)) := by
  refine Ev.step (fun m => by rw [impl_isStep.j2]) ?_
  by_cases h : x39 = true
  · simp only [if_pos h]; exact isStep_j3 k b c d x5 x6 _
  · simp only [if_neg h]; exact isStep_j3 k b c d x5 x6 x7
theorem isStep_j1 (k b c : Int) (d : ByteArray) (x5 x6 x7 : Bool) : Ev (fun m => impl_isStep.j1 m x5 x6 x7 k b c d) (j3M k b c x5 x6 (if k = 2 ∨ k = 4 then e8 d else x7)) := by
  refine Ev.step (fun m => by rw [impl_isStep.j1]) ?_
  by_cases h : k = 2
  · simp only [if_pos h, if_pos (show k = 2 ∨ k = 4 from .inl h)]
    have := isStep_j2 k b c d x5 x6 x7 true
    simpa using this
  · simp only [if_neg h]
    have := isStep_j2 k b c d x5 x6 x7 (k == 4)
    by_cases h4 : k = 4
    · rw [if_pos (.inr h4)]; rw [if_pos (by simp [h4])] at this; exact this
    · rw [if_neg (by omega)]; rw [if_neg (by simp [h4])] at this; exact this
theorem isStep_j0 (k b c : Int) (d : ByteArray) (n : Int) (h : 1 ≤ n ∧ n ≤ 8) (x5 x6 x7 x26 : Bool) : Ev (fun m => impl_isStep.j0 m n x5 x6 x7 x26 k b c d) (j3M k b c x5 (if x26 = true then inr c (n - 1) else x6) (if k = 2 ∨ k = 4 then e8 d else x7)) := by
  refine Ev.step (fun m => by rw [impl_isStep.j0, wrap64_id (n := n - 1) (by omega) (by omega), within_eq]) ?_
  by_cases h : x26 = true
  · simp only [if_pos h, Option.bind_some]; exact isStep_j1 k b c d x5 _ x7
  · simp only [if_neg h]; exact isStep_j1 k b c d x5 x6 x7
theorem implStep (k b c : Int) (d : ByteArray) (n : Int) (h : 1 ≤ n ∧ n ≤ 8) : Ev (fun m => impl_isStep.f m k b c d n) (stepM k b c d n) := by
  have key : Ev (fun m => impl_isStep.j0 m n (inr b (n - 1)) (c == 0) (emp d) (decide (k = 3 ∨ k = 4)) k b c d) (stepM k b c d n) := by
    have := isStep_j0 k b c d n h (inr b (n - 1)) (c == 0) (emp d) (decide (k = 3 ∨ k = 4))
    have e : j3M k b c (inr b (n - 1)) (if decide (k = 3 ∨ k = 4) = true then inr c (n - 1) else (c == 0)) (if k = 2 ∨ k = 4 then e8 d else emp d) = stepM k b c d n := by
      unfold j3M stepM
      by_cases k1 : k = 1
      · subst k1; simp
      · by_cases k2 : k = 2
        · subst k2; simp
        · by_cases k3 : k = 3
          · subst k3; simp
          · by_cases k4 : k = 4
            · subst k4; simp
            · by_cases k5 : k = 5
              · subst k5; simp
              · rw [if_neg k5, if_neg k1, if_neg k2, if_neg k3, if_neg k4, if_neg k5, decide_eq_false (show ¬ (1 ≤ k ∧ k ≤ 5) by omega)]; simp
    rw [e] at this
    exact this
  unfold impl_isStep.f
  rw [wrap64_id (n := n - 1) (by omega) (by omega), within_eq]
  simp only [Option.bind_some]
  by_cases k3 : k = 3
  · simp only [if_pos k3]
    rw [decide_eq_true (show k = 3 ∨ k = 4 from .inl k3)] at key
    exact key
  · simp only [if_neg k3]
    rw [show decide (k = 3 ∨ k = 4) = (k == 4) by rw [Bool.eq_iff_iff]; simp [k3]] at key
    exact key
end Go.Proofs.Ytholfbdbgginpaa.Pure
namespace Go.Proofs.Ytholfbdbgginpaa.Pure
set_option linter.unusedVariables false
set_option linter.unusedSimpArgs false
open Go Go.RowKit Go.Proofs.Ytholfbdbgginpaa.Q Go.Proofs.YtholfbdbgginpaaW.PrintWords Go.Proofs.YtholfbdbgginpaaW.PrintLast Go.Proofs.YtholfbdbgginpaaW.PrintMore
def badM (n : Int) (x : Stp) : Bool := !(stepM x.f0 x.f1 x.f2 x.f3 n)
def dups : List Stp → List Stp → Bool
  | _, [] => false
  | p, x :: r => (x.f0 != 5 && p.any (impl_touches.is x.f1)) || dups (p ++ [x]) r
def rise : Int → List Stp → Bool
  | _, [] => true
  | lb, x :: r => if x.f0 = 5 then decide (lb < x.f2) && rise x.f2 r else rise lb r
def formM (l : List Stp) (n : Int) : Bool := decide (1 ≤ n ∧ n ≤ 8) && decide ((l.length : Int) ≤ 20) && !(l.any (badM n))
def codeM (l : List Stp) (n : Int) : Int := if formM l n = true then (if dups [] l = true then 12 else if rise (-1) l = true then 0 else 8) else 1
theorem idx_before (p : Stp → Bool) (x : Stp) (r : List Stp) (hx : p x = true) : ∀ (a : List Stp) (i : Int), (idxFrom p (a ++ x :: r) i < i + a.length ↔ a.any p = true) := by
  intro a
  induction a with
  | nil => intro i; simp [idxFrom, hx]
  | cons y a ih =>
    intro i
    rw [List.cons_append, idxFrom, List.any_cons]
    by_cases h : p y = true
    · rw [if_pos h, h]; simp; omega
    · rw [if_neg h, Bool.eq_false_iff.2 h, Bool.false_or, ← ih (i + 1)]; simp only [List.length_cons]; omega
theorem scan_eq (r : List Stp) : ∀ (p : List Stp) (lb : Int) (up : Bool), impl_stepsCode.scan (p ++ r) r (p.length : Int) lb up = if dups p r = true then 12 else if (up && rise lb r) = true then 0 else 8 := by
  induction r with
  | nil => intro p lb up; simp [impl_stepsCode.scan, dups, rise]
  | cons x r ih =>
    intro p lb up
    have e : ((p.length : Int) + 1) = ((p ++ [x]).length : Int) := by simp
    have ea : p ++ x :: r = (p ++ [x]) ++ r := by simp
    rw [impl_stepsCode.scan, dups, rise]
    by_cases h : x.f0 = 5
    · rw [if_pos h, if_pos h, e, ea, ih, show (x.f0 != 5) = false from bne_eq_false_iff_eq.2 h, Bool.false_and, Bool.false_or, Bool.and_assoc]
    · rw [if_neg h, if_neg h, show (x.f0 != 5) = true from bne_iff_ne.2 h, Bool.true_and]
      have hx : impl_touches.is x.f1 x = true := by simp [impl_touches.is, h]
      have hb := idx_before (impl_touches.is x.f1) x r hx p 0
      rw [Int.zero_add] at hb
      by_cases g : idxFrom (impl_touches.is x.f1) (p ++ x :: r) 0 < (p.length : Int)
      · rw [if_pos g, hb.1 g, Bool.true_or, if_pos rfl]
      · rw [if_neg g, Bool.eq_false_iff.2 (fun h => g (hb.2 h)), Bool.false_or, e, ea, ih]
theorem implOk (n : Int) (hn : 1 ≤ n ∧ n ≤ 8) : ∀ l : List Stp, ∃ K, ∀ k, K ≤ k → ∀ x ∈ l, impl_stepsCode.ok k n x = some (stepM x.f0 x.f1 x.f2 x.f3 n) := by
  intro l
  induction l with
  | nil => exact ⟨0, fun k _ x hx => by cases hx⟩
  | cons a r ih =>
    obtain ⟨K1, h1⟩ := ih
    obtain ⟨K2, h2⟩ := implStep a.f0 a.f1 a.f2 a.f3 n hn
    refine ⟨max K1 K2, fun k hk x hx => ?_⟩
    rcases List.mem_cons.1 hx with rfl | hx
    · exact h2 k (by omega)
    · exact h1 k (by omega) x hx
theorem implCode (l : List Stp) (n : Int) (hl : l.length ≤ 9223372036854775807) : Ev (fun k => impl_stepsCode.f k l n) (codeM l n) := by
  have hscan := scan_eq l [] (-1) true
  rw [Bool.true_and, List.nil_append] at hscan
  by_cases h1 : 1 ≤ n ∧ n ≤ 8
  · obtain ⟨K, hK⟩ := implOk n h1 l
    refine ⟨K, fun k hk => ?_⟩
    have ok := hK k hk
    show impl_stepsCode.f k l n = _
    unfold impl_stepsCode.f
    rw [if_pos ⟨hl, fun _ _ x hx => by rw [ok x hx]; rfl⟩]
    have ef : impl_stepsCode.form k l n = formM l n := by
      unfold impl_stepsCode.form formM
      have ea : l.any (impl_stepsCode.bad k n) = l.any (badM n) := by
        rw [Bool.eq_iff_iff, List.any_eq_true, List.any_eq_true]
        constructor
        · rintro ⟨x, hx, hb⟩; exact ⟨x, hx, by unfold impl_stepsCode.bad at hb; rw [ok x hx] at hb; exact hb⟩
        · rintro ⟨x, hx, hb⟩; exact ⟨x, hx, by unfold impl_stepsCode.bad; rw [ok x hx]; exact hb⟩
      rw [ea]
    rw [ef]
    unfold codeM
    rw [← hscan]
    rfl
  · refine ⟨0, fun k _ => ?_⟩
    show impl_stepsCode.f k l n = _
    unfold impl_stepsCode.f
    rw [if_pos ⟨hl, fun h => absurd h h1⟩]
    have e1 : impl_stepsCode.form k l n = false := by unfold impl_stepsCode.form; rw [decide_eq_false h1, Bool.false_and, Bool.false_and]
    have e2 : formM l n = false := by unfold formM; rw [decide_eq_false h1, Bool.false_and, Bool.false_and]
    unfold codeM
    rw [e1, e2]
    rfl
theorem specRise (N : Nat) (hN : N ≤ 20) (r : List Stp) : ∀ (p : List Stp) (lb : Int), p.length + r.length = N → Ev (fun k => spec_StepsCode.l3 k (p ++ r) lb (p.length : Int)) (if rise lb r = true then 0 else 8) := by
  induction r with
  | nil => intro p lb h; exact Ev.step (f := fun _ => some 0) (fun k => by rw [spec_StepsCode.l3, if_neg (not_lt_end p)]) (by simpa [rise] using Ev.now _)
  | cons x r ih =>
    intro p lb h
    simp only [List.length_cons] at h
    have ih' := fun lb => ih (p ++ [x]) lb (by simp; omega)
    rw [← snoc_app, lenS_snoc] at ih'
    refine Ev.step (fun k => by rw [spec_StepsCode.l3, if_pos (lt_mid p x r), if_pos (by omega), rdSt_mid, next64 (by omega)]) ?_
    rw [rise]
    by_cases g : x.f0 = 5
    · simp only [if_pos g]
      by_cases g2 : x.f2 ≤ lb
      · simp only [if_pos g2, decide_eq_false (show ¬ lb < x.f2 by omega), Bool.false_and]
        exact Ev.now _
      · simp only [if_neg g2, decide_eq_true (show lb < x.f2 by omega), Bool.true_and]
        exact ih' x.f2
    · simp only [if_neg g]
      exact ih' lb
theorem specTwice (N : Nat) (hN : N ≤ 20) (x : Stp) (r : List Stp) (L : List Stp) (R : Int) (q2 : List Stp) : ∀ (q1 : List Stp), (q1 ++ q2).length ≤ 20 → L = (q1 ++ q2) ++ x :: r →
    Ev (fun k => spec_StepsCode.l1 k L (((q1 ++ q2).length : Int) + 1)) R →
    Ev (fun k => spec_StepsCode.l2 k L ((q1 ++ q2).length : Int) (q1.length : Int)) (if (x.f0 != 5 && q2.any (impl_touches.is x.f1)) = true then 12 else R) := by
  induction q2 with
  | nil =>
    intro q1 h hL hR
    rw [List.append_nil] at h hL hR ⊢
    refine Ev.step (f := fun k => spec_StepsCode.l1 k L ((q1.length : Int) + 1)) (fun k => by rw [spec_StepsCode.l2, if_neg (by omega), wrap64_id (n := (q1.length : Int) + 1) (by omega) (by omega)]) ?_
    simpa using hR
  | cons y q2 ih =>
    intro q1 h hL hR
    have ea : q1 ++ y :: q2 = (q1 ++ [y]) ++ q2 := by simp
    have hlen : (q1 ++ y :: q2).length = q1.length + 1 + q2.length := by simp; omega
    have hy : rd_T26 L (q1.length : Int) = y := by rw [hL, List.append_assoc, List.cons_append]; exact rdSt_mid _ _ _
    have hxx : rd_T26 L ((q1 ++ y :: q2).length : Int) = x := by rw [hL]; exact rdSt_mid _ _ _
    have hLl : ((q1 ++ y :: q2).length : Int) < (L.length : Int) := by rw [hL]; exact lt_mid _ _ _
    have ih' := ih (q1 ++ [y]) (by rw [← ea]; exact h) (by rw [← ea]; exact hL) (by rw [← ea]; exact hR)
    rw [← ea, lenS_snoc] at ih'
    refine Ev.step (fun k => by rw [spec_StepsCode.l2, if_pos (by omega), if_pos (by omega), if_pos hLl, if_pos (show (0 : Int) ≤ (q1.length : Int) by omega), if_pos (show (q1.length : Int) < (L.length : Int) by omega), hy, hxx, next64 (by omega)]) ?_
    rw [List.any_cons]
    by_cases g : x.f0 = 5
    · simp only [if_pos g]
      rw [show (x.f0 != 5) = false from bne_eq_false_iff_eq.2 g, Bool.false_and] at ih' ⊢
      exact ih'
    · simp only [if_neg g]
      rw [show (x.f0 != 5) = true from bne_iff_ne.2 g, Bool.true_and] at ih' ⊢
      by_cases g2 : y.f0 = 5
      · simp only [if_pos g2]
        rw [show impl_touches.is x.f1 y = false by simp [impl_touches.is, g2], Bool.false_or]
        exact ih'
      · simp only [if_neg g2]
        by_cases g3 : x.f1 = y.f1
        · simp only [if_pos g3]
          rw [show impl_touches.is x.f1 y = true by simp [impl_touches.is, g2, g3], Bool.true_or, if_pos rfl]
          exact Ev.now _
        · simp only [if_neg g3]
          rw [show impl_touches.is x.f1 y = false by simp [impl_touches.is, g2]; exact fun h => g3 h.symm, Bool.false_or]
          exact ih'
theorem specDups (R : Int) (L : List Stp) (hL : L.length ≤ 20) (hR : Ev (fun k => spec_StepsCode.l3 k L (-1) 0) R) (r : List Stp) : ∀ (p : List Stp), L = p ++ r → Ev (fun k => spec_StepsCode.l1 k L (p.length : Int)) (if dups p r = true then 12 else R) := by
  induction r with
  | nil =>
    intro p h
    subst h
    refine Ev.step (fun k => by rw [spec_StepsCode.l1, if_neg (not_lt_end p)]) ?_
    simpa [dups] using hR
  | cons x r ih =>
    intro p h
    have hl : p.length + 1 + r.length ≤ 20 := by rw [h] at hL; simp at hL; omega
    have hlt : (p.length : Int) < (L.length : Int) := by rw [h]; exact lt_mid p x r
    refine Ev.step (fun k => by rw [spec_StepsCode.l1, if_pos hlt]) ?_
    have ih' := ih (p ++ [x]) (by rw [h]; simp)
    rw [lenS_snoc] at ih'
    have := specTwice p.length (by omega) x r L _ p [] (by simp; omega) (by simpa using h) (by simpa using ih')
    rw [List.nil_append] at this
    rw [dups]
    have e : (if (x.f0 != 5 && p.any (impl_touches.is x.f1) || dups (p ++ [x]) r) = true then (12 : Int) else R) = if (x.f0 != 5 && p.any (impl_touches.is x.f1)) = true then 12 else if dups (p ++ [x]) r = true then 12 else R := by
      cases (x.f0 != 5 && p.any (impl_touches.is x.f1)) <;> simp
    rw [e]
    exact this
theorem specForm (n : Int) (hn : 1 ≤ n ∧ n ≤ 8) (R : Int) (L : List Stp) (hL : L.length ≤ 20) (hR : Ev (fun k => spec_StepsCode.l1 k L 0) R) (r : List Stp) : ∀ (p : List Stp), L = p ++ r → Ev (fun k => spec_StepsCode.l0 k L n (p.length : Int)) (if r.any (badM n) = true then 1 else R) := by
  induction r with
  | nil =>
    intro p h
    subst h
    refine Ev.step (fun k => by rw [spec_StepsCode.l0, if_neg (not_lt_end p)]) ?_
    simpa using hR
  | cons x r ih =>
    intro p h
    have hl : p.length + 1 + r.length ≤ 20 := by rw [h] at hL; simp at hL; omega
    have hlt : (p.length : Int) < (L.length : Int) := by rw [h]; exact lt_mid p x r
    have hx : rd_T26 L (p.length : Int) = x := by rw [h]; exact rdSt_mid _ _ _
    refine Ev.step (fun k => by rw [spec_StepsCode.l0, if_pos hlt, if_pos (by omega), hx, next64 (by omega), specStep _ _ _ _ n hn]) ?_
    simp only [Option.bind_some]
    rw [List.any_cons]
    by_cases g : stepM x.f0 x.f1 x.f2 x.f3 n = true
    · simp only [if_pos g]
      rw [show badM n x = false by simp [badM, g], Bool.false_or]
      have ih' := ih (p ++ [x]) (by rw [h]; simp)
      rw [lenS_snoc] at ih'
      exact ih'
    · simp only [if_neg g]
      rw [show badM n x = true by simp [badM, g], Bool.true_or, if_pos rfl]
      exact Ev.now _
theorem specCode (l : List Stp) (n : Int) : Ev (fun k => spec_StepsCode.f k l n) (codeM l n) := by
  unfold spec_StepsCode.f codeM
  by_cases h2 : (l.length : Int) > 20
  · simp only [if_pos h2]
    rw [show formM l n = false by unfold formM; rw [decide_eq_false (show ¬ (l.length : Int) ≤ 20 by omega), Bool.and_false, Bool.false_and]]
    exact Ev.step (f := fun _ => some 1) (fun k => by rw [spec_StepsCode.j0, if_pos rfl]) (Ev.now _)
  · simp only [if_neg h2, l03Is_eq, Option.bind_some]
    by_cases h1 : 1 ≤ n ∧ n ≤ 8
    · rw [decide_eq_true h1]
      refine Ev.step (fun k => by rw [spec_StepsCode.j0, if_neg (by decide)]) ?_
      have h3 := specRise l.length (by omega) l [] (-1) (by simp)
      have h4 := specDups _ l (by omega) h3 l [] (by simp)
      have h5 := specForm n h1 _ l (by omega) h4 l [] (by simp)
      unfold formM
      rw [decide_eq_true h1, decide_eq_true (show (l.length : Int) ≤ 20 by omega), Bool.true_and, Bool.true_and]
      cases hb : l.any (badM n)
      · rw [hb] at h5; exact h5
      · rw [hb] at h5; exact h5
    · rw [decide_eq_false h1]
      rw [show formM l n = false by unfold formM; rw [decide_eq_false h1, Bool.false_and, Bool.false_and]]
      exact Ev.step (f := fun _ => some 1) (fun k => by rw [spec_StepsCode.j0, if_pos (show (!false) = true from rfl)]) (Ev.now _)
end Go.Proofs.Ytholfbdbgginpaa.Pure
namespace Go.Proofs.Ytholfbdbgginpaa.Pure
set_option linter.unusedVariables false
set_option linter.unusedSimpArgs false
open Go Go.RowKit Go.Proofs.Ytholfbdbgginpaa.Q Go.Proofs.Ytholfbdbgginpaa.Open Go.Proofs.YtholfbdbgginpaaW.PrintWords Go.Proofs.YtholfbdbgginpaaW.PrintLast Go.Proofs.YtholfbdbgginpaaW.PrintMore
def packM (n : Int) (d : ByteArray) (L : List Stp) : Bool := if codeM L n = 0 then (d.size : Int) == 32 else false
theorem FnExactPackageRight : ∀ (n : Int) (d : ByteArray) (l0 : List LStep), (okInt .i64 n ∧ okStr d ∧ okList (fun x : LStep => okInt .i64 x.f0 ∧ okInt .i64 x.f1 ∧ okInt .i64 x.f2 ∧ okStr x.f3) l0) → ∃ k, laws_FnExactPackageRight.f k n d l0 = some true := by
  intro n d l ⟨_, okd, ok⟩
  refine Ev.rounds ?_
  have hM : maxLen ≤ 9223372036854775807 := by decide
  have hd : d.size ≤ 9223372036854775807 := Nat.le_trans okd hM
  unfold laws_FnExactPackageRight.f
  have hz : ∃ v, Ev (fun k => laws_szPackage.f k n d l 1048576) v ∧ (¬ v < 0 → l.length ≤ 1048576) := by
    unfold laws_szPackage.f
    rw [wrap64_id (n := 1048576 - (d.size : Int)) (by omega) (by omega)]
    by_cases g : 1048576 - (d.size : Int) < 0
    · exact ⟨-1, by simp only [if_pos g]; exact Ev.now _, by omega⟩
    · obtain ⟨v, e, hv, v0, v1⟩ := szSt2 l (1048576 - (d.size : Int)) (by omega) (by omega) (Nat.le_trans ok.1 hM) (fun s hs => Nat.le_trans (ok.2 s hs).2.2.2 hM)
      simp only [if_neg g]
      by_cases g2 : v < 0
      · exact ⟨-1, Ev.bind e (by simp only [if_pos g2]; exact Ev.now _), by omega⟩
      · exact ⟨v, Ev.bind e (by simp only [if_neg g2]; exact Ev.now _), hv⟩
  obtain ⟨v, e, hv⟩ := hz
  refine Ev.bind e ?_
  by_cases g : v < 0
  · simp only [if_pos g]; exact Ev.now _
  · have hl := hv g
    simp only [if_neg g]
    have hto0 := toSt l (by omega)
    have hE : (l.map stpOf).length = l.length := by simp
    generalize l.map stpOf = L at hto0 hE
    have hto : Ev (fun k => laws_toPackage.f k n d l) (n, d, L) := by
      unfold laws_toPackage.f
      exact Ev.bind hto0 (Ev.now _)
    have hi : Ev (fun k => impl_PackageRight.f k n d L) (packM n d L) := by
      unfold impl_PackageRight.f impl_isPackage.f packM
      refine Ev.bind (a := if codeM L n = 0 then (d.size : Int) == 32 else false) (Ev.bind (implCode L n (by omega)) ?_) (Ev.now _)
      split <;> exact Ev.now _
    have hs : Ev (fun k => spec_PackageRight.f k n d L) (packM n d L) := by
      unfold spec_PackageRight.f packM
      refine Ev.bind (specCode L n) ?_
      split <;> exact Ev.now _
    refine Ev.bind hto (Ev.bind hs (Ev.bind hto (Ev.bind hi ?_)))
    simp only [bne_self_eq_false, Bool.false_eq_true, if_false]
    refine Ev.bind hto (Ev.bind (a := true) ?_ (by simp only [if_true]; exact Ev.now _))
    unfold laws_eqPackage.f
    simp only [if_true]
    exact Ev.bind (eqSt L (by omega)) (by simp only [if_true]; exact Ev.now _)
end Go.Proofs.Ytholfbdbgginpaa.Pure
