/- Pure texts in one: The program's Writes and the reference's Writes return the same steps, for every list; the list stays as it was, the result is new memory. -/
import Derived.Test.YtholfbdbgginpaaKFnExactWrites0
import Derived.Test.YtholfbdbgginpaaKFnExactWrites1
import Derived.Test.YtholfbdbgginpaaKFnExactWrites2
import Derived.Test.YtholfbdbgginpaaWMore
import Derived.ProofKit
import Derived.WalkKit
import Derived.Deep.Slices
import Derived.DataReads
import Derived.Laws.BitsAllLaws
import Derived.Laws.Strings
namespace Go.Proofs.Ytholfbdbgginpaa.Open
set_option linter.unusedVariables false
set_option linter.unusedSimpArgs false
open Go Go.RowKit Go.Deep Go.Proofs.YtholfbdbgginpaaW.PrintWords Go.Proofs.YtholfbdbgginpaaW.PrintLast Go.Proofs.YtholfbdbgginpaaW.PrintMore
/-- Cells of type t that can be read as data are a value of the kind d, for which ok holds. -/
def Opens {α : Type} (d : Kd α) (ok : α → Prop) (P : Program) (t : TypeId) : Prop :=
  ∀ (H : Type) (enc : TypeId × Value → H) (W : World) (base : Nat) (spare : Nat → Bool) (held : Bool) (fuel : Nat) (cs : List Value) (x : DataW H × List MemPlace),
    DataW.trod enc P W base spare held fuel t cs = some x → ∃ a : α, d.K W a cs ∧ ok a
def okInt (k : IntKind) (n : Int) : Prop := (Lit.int k n).wf = true
def okStr (s : ByteArray) : Prop := s.size ≤ maxLen
def okList {α : Type} (ok : α → Prop) (l : List α) : Prop := l.length ≤ maxLen ∧ ∀ a ∈ l, ok a
theorem opens_int {P : Program} {t : TypeId} {k : IntKind} (ht : P.underlying t = some (.int k)) : Opens (Kd.int k) (okInt k) P t := by
  intro H enc W base spare held fuel cs x h
  obtain ⟨n, rfl, _, hw⟩ := DataW.trod_int ht h
  exact ⟨n, rfl, hw⟩
theorem opens_string {P : Program} {t : TypeId} (ht : P.underlying t = some .string) : Opens Kd.string okStr P t := by
  intro H enc W base spare held fuel cs x h
  obtain ⟨s, rfl, _, hw⟩ := DataW.trod_string ht h
  exact ⟨s, rfl, hw⟩
theorem cells_at {w : World} {base : Nat} {a : Addr} {n : Nat} {cs : List Value} (h : w.cells? base a n = some cs) : cs.length = n ∧ ∀ i u, cs[i]? = some u → w.cell? (a.add i) = some u := by
  unfold World.cells? at h
  split at h
  · have hl : cs.length = n := by simpa using mapM_some_length h
    refine ⟨hl, fun i u hi => ?_⟩
    have hil : i < cs.length := (List.getElem?_eq_some_iff.1 hi).1
    have := mapM_some_get h i i (by rw [List.getElem?_range (by omega)])
    rw [this, hi]
  · cases h
theorem opens_slice {α : Type} {d : Kd α} {ok : α → Prop} {P : Program} {t e : TypeId} (z : α) (ht : P.underlying t = some (.slice e)) (hc : P.cellsOf e = d.sz) (he : Opens d ok P e) : Opens (Kd.slice e d) (okList ok) P t := by
  intro H enc W base spare held fuel cs x h
  rcases open_slice ht h with ⟨rfl, _⟩ | ⟨a, len, cap, m, n, D, Pl, rfl, _, hl, hm, hmeq, _, hel⟩
  · exact ⟨[], ⟨none, 0, rfl, Nat.le_refl _, rfl, by simp, fun hp => by simp at hp⟩, by simp [okList], by simp⟩
  · have hlm : len ≤ m := by rw [hmeq]; split <;> omega
    have key : ∀ i, i < len → ∃ y : α, ok y ∧ ∃ c, c.length = d.sz ∧ d.K W y c ∧ ∀ j u, c[j]? = some u → W.cell? (a.add (i * d.sz + j)) = some u := by
      intro i hi
      obtain ⟨cs', h1, h2⟩ := hel i (by omega)
      obtain ⟨y, hy, hok⟩ := he H enc W base spare held n cs' _ h2
      have hca := cells_at h1
      refine ⟨y, hok, cs', by rw [hca.1, hc], hy, fun j u hj => ?_⟩
      have := hca.2 j u hj
      rw [Go.Deep.add_add, hc] at this
      exact this
    let f : Nat → α := fun i => if h : i < len then (key i h).choose else z
    have hf : ∀ i (h : i < len), f i = (key i h).choose := fun i h => by simp only [f]; rw [dif_pos h]
    have hlen : ((List.range len).map f).length = len := by simp
    have hmax : (9223372036854775807 : Nat) ≥ maxLen := by unfold maxLen; omega
    refine ⟨(List.range len).map f, ⟨some a, cap, by rw [hlen], by rw [hlen]; exact hl, ?_⟩, by rw [hlen]; omega, fun y hy => ?_⟩
    · rw [hlen]
      refine ⟨hlen, by omega, fun _ => ⟨a, rfl, fun j p hj => ?_⟩⟩
      have hj' : j < len := by have := (List.getElem?_eq_some_iff.1 hj).1; rwa [hlen] at this
      have e : p = f j := by
        rw [List.getElem?_map, List.getElem?_range hj'] at hj
        simpa using hj.symm
      subst e
      rw [hf j hj']
      obtain ⟨_, c, h1, h2, h3⟩ := (key j hj').choose_spec
      exact ⟨c, h1, h2, h3⟩
    · obtain ⟨i, hi, rfl⟩ := List.mem_map.1 hy
      have hi' : i < len := by simpa using hi
      rw [hf i hi']
      exact (key i hi').choose_spec.1
/-- The fields fs, the first at cell off, tell a value of the kind d. -/
def OpensFs {α : Type} (d : Kd α) (ok : α → Prop) (P : Program) (fs : List Field) (off : Nat) : Prop :=
  ∀ (H : Type) (enc : TypeId × Value → H) (W : World) (base : Nat) (spare : Nat → Bool) (held : Bool) (n : Nat) (cs : List Value), cs.length = off + d.sz →
    (∀ f, f ∈ fs → ∃ y, DataW.trod enc P W base spare held n f.type ((cs.drop f.offset).take (P.cellsOf f.type)) = some y) → ∃ a : α, d.K W a (cs.drop off) ∧ ok a
theorem opensFs_one {α : Type} {d : Kd α} {ok : α → Prop} {P : Program} {f : Field} {off : Nat} (ho : f.offset = off) (hc : P.cellsOf f.type = d.sz) (h : Opens d ok P f.type) : OpensFs d ok P [f] off := by
  intro H enc W base spare held n cs hl hf
  obtain ⟨y, hy⟩ := hf f (by simp)
  rw [ho, hc, List.take_of_length_le (by rw [List.length_drop]; omega)] at hy
  exact h H enc W base spare held n _ _ hy
theorem opensFs_cons {α β : Type} {a : Kd α} {b : Kd β} {oka : α → Prop} {okb : β → Prop} {P : Program} {f : Field} {fs : List Field} {off : Nat} (ho : f.offset = off) (hc : P.cellsOf f.type = a.sz) (h : Opens a oka P f.type) (hs : OpensFs b okb P fs (off + a.sz)) :
    OpensFs (Kd.pair a b) (fun x => oka x.1 ∧ okb x.2) P (f :: fs) off := by
  intro H enc W base spare held n cs hl hf
  have hsz : (Kd.pair a b).sz = a.sz + b.sz := rfl
  rw [hsz] at hl
  obtain ⟨y, hy⟩ := hf f (by simp)
  rw [ho, hc] at hy
  obtain ⟨p, hp, hpo⟩ := h H enc W base spare held n _ _ hy
  obtain ⟨q, hq, hqo⟩ := hs H enc W base spare held n cs (by omega) (fun g hg => hf g (by simp [hg]))
  refine ⟨(p, q), ⟨(cs.drop off).take a.sz, cs.drop (off + a.sz), ?_, hp, hq⟩, hpo, hqo⟩
  rw [← List.drop_drop, List.take_append_drop]
theorem opens_struct {α β : Type} {d : Kd α} {ok : α → Prop} {P : Program} {t : TypeId} {fs : Array Field} (f : β → α) (g : α → β) (hfg : ∀ a, f (g a) = a) (ht : P.underlying t = some (.struct fs)) (hc : P.cellsOf t = d.sz) (h : OpensFs d ok P fs.toList 0) : Opens (Kd.iso d f) (fun x => ok (f x)) P t := by
  intro H enc W base spare held fuel cs x hx
  obtain ⟨xs, n, _, rfl, hl, hlen, hf⟩ := DataW.trod_struct ht hx
  obtain ⟨a, ha, hok⟩ := h H enc W base spare held n cs (by omega) (fun f hf' => by
    obtain ⟨i, hi⟩ := List.getElem?_of_mem hf'
    have hi2 : fs[i]? = some f := by rw [← hi]; simp
    have := hf i f hi2
    have hil : i < xs.length := by rw [hlen]; exact (Array.getElem?_eq_some_iff.1 hi2).1
    rw [List.getElem?_eq_getElem hil] at this
    exact ⟨_, this⟩)
  exact ⟨g a, by show d.K W (f (g a)) cs; rw [hfg]; simpa using ha, by show ok (f (g a)); rw [hfg]; exact hok⟩
end Go.Proofs.Ytholfbdbgginpaa.Open
namespace Go.Proofs.Ytholfbdbgginpaa.Pure
set_option linter.unusedVariables false
set_option linter.unusedSimpArgs false
open Go Go.RowKit Go.Proofs.YtholfbdbgginpaaW.PrintWords Go.Proofs.YtholfbdbgginpaaW.PrintLast Go.Proofs.YtholfbdbgginpaaW.PrintMore
theorem wrap64_id {n : Int} (h0 : -9223372036854775808 ≤ n) (h1 : n ≤ 9223372036854775807) : wrap64 n = n := by
  unfold wrap64; omega
/-- One is known without rounds. -/
theorem Ev.bind1 {α β : Type} {g : Option α} {f : Nat → α → Option β} {a : α} {r : β} (h : g = some a) (k : Ev (fun n => f n a) r) : Ev (fun n => g.bind (f n)) r := by
  subst h
  exact k
end Go.Proofs.Ytholfbdbgginpaa.Pure
namespace Go.Proofs.Ytholfbdbgginpaa.Pure
set_option linter.unusedVariables false
set_option linter.unusedSimpArgs false
open Go Go.RowKit Go.Proofs.YtholfbdbgginpaaW.PrintWords Go.Proofs.YtholfbdbgginpaaW.PrintLast Go.Proofs.YtholfbdbgginpaaW.PrintMore
theorem set_mid {α : Type} (p : List α) (a b : α) (r : List α) : (p ++ a :: r).set (p.length : Int).toNat b = p ++ b :: r := by simp
theorem snoc_app {α : Type} (p : List α) (a : α) (r : List α) : p ++ a :: r = (p ++ [a]) ++ r := by simp
theorem lt_mid {α : Type} (p : List α) (a : α) (r : List α) : (p.length : Int) < ((p ++ a :: r).length : Int) := by rw [List.length_append, List.length_cons]; omega
theorem not_lt_end {α : Type} (p : List α) : ¬ (p.length : Int) < ((p ++ []).length : Int) := by rw [List.append_nil]; omega
theorem next64 {i : Nat} (h : i < 9223372036854775807) : wrap64 ((i : Int) + 1) = ((i + 1 : Nat) : Int) := by rw [wrap64_id (by omega) (by omega)]; omega
end Go.Proofs.Ytholfbdbgginpaa.Pure
namespace Go.Proofs.Ytholfbdbgginpaa.Pure
set_option linter.unusedVariables false
set_option linter.unusedSimpArgs false
open Go Go.RowKit Go.Proofs.Ytholfbdbgginpaa.Q Go.Proofs.YtholfbdbgginpaaW.PrintWords Go.Proofs.YtholfbdbgginpaaW.PrintLast Go.Proofs.YtholfbdbgginpaaW.PrintMore
def mtGo : Nat → Nat → ByteArray → ByteArray
  | 0, _, acc => (⟨#[109]⟩ : ByteArray) ++ acc
  | d + 1, x, acc => if x = 0 then (⟨#[109]⟩ : ByteArray) ++ acc else mtGo d (x / 10) (strOfNums [(wrap64 (48 + (Int.tmod (x : Int) 10))) % 256] ++ acc)
def markT (m : Int) : ByteArray := if m ≤ 0 then (⟨#[109, 48]⟩ : ByteArray) else mtGo 19 m.toNat (⟨#[]⟩ : ByteArray)
theorem markText_l0 (d : Nat) : ∀ (x : Nat) (acc : ByteArray), x < 10 ^ d → x < 9223372036854775807 → acc.size + d ≤ 1000 → Ev (fun k => laws_markText.l0 k (x : Int) acc) (mtGo d x acc) := by
  induction d with
  | zero =>
    intro x acc h _ hs
    simp only [Nat.pow_zero, Nat.lt_one_iff] at h
    subst h
    exact Ev.step (fun k => by rw [laws_markText.l0, if_neg (by omega), if_pos (by omega)]) (by rw [mtGo]; exact Ev.now _)
  | succ d ih =>
    intro x acc h h6 hs
    rw [mtGo]
    by_cases g : x = 0
    · subst g
      exact Ev.step (fun k => by rw [laws_markText.l0, if_neg (by omega), if_pos (by omega)]) (by rw [if_pos rfl]; exact Ev.now _)
    · rw [if_neg g]
      have e1 : wrap64 (Int.tdiv (x : Int) 10) = ((x / 10 : Nat) : Int) := by
        rw [Int.tdiv_eq_ediv_of_nonneg (by omega), wrap64_id (by omega) (by omega)]; omega
      have e2 : (strOfNums [(wrap64 (48 + (Int.tmod (x : Int) 10))) % 256]).size = 1 := by rw [strOfNums_size]; rfl
      refine Ev.step (fun k => by rw [laws_markText.l0, if_pos (by omega), Option.bind_some, if_pos (by rw [e2]; omega), e1]) ?_
      exact ih (x / 10) _ (by rw [Nat.pow_succ] at h; omega) (by omega) (by rw [ByteArray.size_append, e2]; omega)
theorem markText (m : Int) (h : m ≤ 4000000000000000000) : Ev (fun k => laws_markText.f k m) (markT m) := by
  unfold laws_markText.f markT
  by_cases g : m ≤ 0
  · simp only [if_pos g]; exact Ev.now _
  · simp only [if_neg g]
    have := markText_l0 19 m.toNat (⟨#[]⟩ : ByteArray) (by omega) (by omega) (by decide)
    rw [Int.toNat_of_nonneg (by omega)] at this
    exact this
end Go.Proofs.Ytholfbdbgginpaa.Pure
namespace Go.Proofs.Ytholfbdbgginpaa.Pure
set_option linter.unusedVariables false
set_option linter.unusedSimpArgs false
open Go Go.RowKit Go.Proofs.Ytholfbdbgginpaa.Q Go.Proofs.YtholfbdbgginpaaW.PrintWords Go.Proofs.YtholfbdbgginpaaW.PrintLast Go.Proofs.YtholfbdbgginpaaW.PrintMore
theorem lenS_snoc {α : Type} (q : List α) (e : α) : (q ++ [e]).length = q.length + 1 := by simp
end Go.Proofs.Ytholfbdbgginpaa.Pure
namespace Go.Proofs.Ytholfbdbgginpaa.Pure
set_option linter.unusedVariables false
set_option linter.unusedSimpArgs false
open Go Go.RowKit Go.Proofs.Ytholfbdbgginpaa.Q Go.Proofs.YtholfbdbgginpaaW.PrintWords Go.Proofs.YtholfbdbgginpaaW.PrintLast Go.Proofs.YtholfbdbgginpaaW.PrintMore
abbrev LStep := S23
abbrev Stp := S26
def stpOf (x : LStep) : Stp := ⟨x.f0, x.f1, x.f2, x.f3⟩
theorem rdLS_mid (p : List LStep) (a : LStep) (r : List LStep) : rd_T23 (p ++ a :: r) (p.length : Int) = a := by simp [rd_T23]
theorem rdSt_mid (p : List Stp) (a : Stp) (r : List Stp) : rd_T26 (p ++ a :: r) (p.length : Int) = a := by simp [rd_T26]
theorem toSt_l0 (N : Nat) (hN : N < 9223372036854775807) (r : List LStep) : ∀ p : List LStep, p.length + r.length = N →
    Ev (fun k => laws_toStepS.l0 k (p ++ r) (p.map stpOf ++ List.replicate r.length z26) (p.length : Int)) ((p ++ r).map stpOf) := by
  induction r with
  | nil => intro p h; exact Ev.step (fun k => by rw [laws_toStepS.l0, if_neg (not_lt_end p)]) (by simpa using Ev.now _)
  | cons a r ih =>
    intro p h
    simp only [List.length_cons] at h
    have hl : (p.length : Int) < ((p.map stpOf ++ List.replicate (a :: r).length z26).length : Int) := by simp only [List.length_append, List.length_map, List.length_replicate, List.length_cons]; omega
    refine Ev.step (fun k => by rw [laws_toStepS.l0, if_pos (lt_mid p a r), if_pos (by omega), rdLS_mid, next64 (by omega)]) ?_
    refine Ev.bind1 (a := (a.f0, a.f1, a.f2, a.f3)) (by unfold laws_toStep.f; rfl) ?_
    simp only [if_pos hl]
    have := ih (p ++ [a]) (by simp; omega)
    rw [← snoc_app, lenS_snoc] at this
    have e : (p.map stpOf ++ List.replicate (a :: r).length z26).set ((p.length : Nat) : Int).toNat (⟨a.f0, a.f1, a.f2, a.f3⟩ : Stp) = (p ++ [a]).map stpOf ++ List.replicate r.length z26 := by
      rw [List.length_cons, List.replicate_succ]
      have := set_mid (p.map stpOf) z26 (⟨a.f0, a.f1, a.f2, a.f3⟩ : Stp) (List.replicate r.length z26)
      rw [List.length_map] at this
      rw [this]; simp [stpOf]
    rw [← e] at this
    exact this
theorem toSt (l : List LStep) (h : l.length ≤ 7036874417766) : Ev (fun k => laws_toStepS.f k l) (l.map stpOf) := by
  unfold laws_toStepS.f
  simp only [if_pos (show (0 : Int) ≤ (l.length : Int) by omega), if_pos (show ((l.length : Int)).toNat ≤ 7036874417766 by omega), Int.toNat_natCast]
  have := toSt_l0 l.length (by omega) l [] (by simp)
  simpa [h] using this
theorem szSt_l0 (N : Nat) (hN : N ≤ 1048576) (r : List LStep) : ∀ (p : List LStep) (x : Int), p.length + r.length = N → 0 ≤ x → x ≤ 1048576 → (∀ s ∈ r, s.f3.size ≤ 9223372036854775807) →
    ∃ v, Ev (fun k => laws_szStepS.l0 k (p ++ r) x (p.length : Int)) v ∧ -1 ≤ v ∧ v ≤ 1048576 := by
  induction r with
  | nil => intro p x h h0 h1 _; exact ⟨x, Ev.step (fun k => by rw [laws_szStepS.l0, if_neg (not_lt_end p)]) (Ev.now _), by omega, by omega⟩
  | cons a r ih =>
    intro p x h h0 h1 hs
    simp only [List.length_cons] at h
    have ha := hs a (by simp)
    by_cases g : x - (a.f3.size : Int) < 0
    · refine ⟨-1, Ev.step (fun k => by rw [laws_szStepS.l0, if_pos (lt_mid p a r), if_pos (by omega), rdLS_mid]) (Ev.bind1 (a := -1) (by unfold laws_szStep.f; rw [wrap64_id (n := x - (a.f3.size : Int)) (by omega) (by omega), if_pos g]) ?_), by omega, by omega⟩
      simp only [show ((-1 : Int) < 0) from by decide, if_true]; exact Ev.now _
    · obtain ⟨v, e, b0, b1⟩ := ih (p ++ [a]) (x - (a.f3.size : Int)) (by simp; omega) (by omega) (by omega) (fun s h => hs s (by simp [h]))
      rw [← snoc_app, lenS_snoc] at e
      refine ⟨v, Ev.step (fun k => by rw [laws_szStepS.l0, if_pos (lt_mid p a r), if_pos (by omega), rdLS_mid, next64 (by omega)]) (Ev.bind1 (a := x - (a.f3.size : Int)) (by unfold laws_szStep.f; rw [wrap64_id (n := x - (a.f3.size : Int)) (by omega) (by omega), if_neg g]) ?_), b0, b1⟩
      simp only [if_neg g]; exact e
theorem szSt2 (l : List LStep) (x : Int) (h0 : 0 ≤ x) (h1 : x ≤ 1048576) (hl : l.length ≤ 9223372036854775807) (hs : ∀ s ∈ l, s.f3.size ≤ 9223372036854775807) : ∃ v, Ev (fun k => laws_szStepS.f k l x) v ∧ (¬ v < 0 → l.length ≤ 1048576) ∧ -1 ≤ v ∧ v ≤ 1048576 := by
  unfold laws_szStepS.f
  rw [wrap64_id (n := x - (l.length : Int)) (by omega) (by omega)]
  by_cases g : x - (l.length : Int) < 0
  · exact ⟨-1, by simp only [if_pos g]; exact Ev.now _, by omega, by omega, by omega⟩
  · obtain ⟨v, e, b0, b1⟩ := szSt_l0 l.length (by omega) l [] (x - (l.length : Int)) (by simp) (by omega) (by omega) hs
    exact ⟨v, by simp only [if_neg g]; exact e, by omega, b0, b1⟩
theorem eqSt_l0 (N : Nat) (hN : N < 9223372036854775807) (r : List Stp) : ∀ p : List Stp, p.length + r.length = N → Ev (fun k => laws_eqStepS.l0 k (p ++ r) (p ++ r) (p.length : Int)) true := by
  induction r with
  | nil => intro p h; exact Ev.step (fun k => by rw [laws_eqStepS.l0, if_neg (not_lt_end p)]) (Ev.now _)
  | cons a r ih =>
    intro p h
    simp only [List.length_cons] at h
    refine Ev.step (fun k => by rw [laws_eqStepS.l0, if_pos (lt_mid p a r), if_pos (by omega), if_pos (lt_mid p a r), rdSt_mid, next64 (by omega)]) ?_
    refine Ev.bind1 (a := true) (by unfold laws_eqStep.f; simp) ?_
    simp only [if_true]
    have := ih (p ++ [a]) (by simp; omega)
    rw [← snoc_app, lenS_snoc] at this
    exact this
theorem eqSt (l : List Stp) (h : l.length < 9223372036854775807) : Ev (fun k => laws_eqStepS.f k l l) true := by
  unfold laws_eqStepS.f
  simp only [if_true]
  exact eqSt_l0 l.length h l [] (by simp)
def markSt (m : Int) : Stp := ⟨m, m + 1, m + 2, markT (m + 3)⟩
def marksSt : Int → Nat → List Stp
  | _, 0 => []
  | m, n + 1 => markSt m :: marksSt (m + 4) n
theorem markStp_l0 (N : Nat) (hN : N < 1000000000000000000) (r : List Stp) : ∀ (p : List Stp) (m : Int), p.length + r.length = N → 0 ≤ m → m + 4 * r.length ≤ 4000000000000000000 →
    Ev (fun k => laws_markStepS.l0 k (p ++ r) m (p.length : Int)) (m + 4 * r.length, p ++ marksSt m r.length) := by
  induction r with
  | nil => intro p m h h0 h1; exact Ev.step (fun k => by rw [laws_markStepS.l0, if_neg (not_lt_end p)]) (by simpa [marksSt] using Ev.now _)
  | cons a r ih =>
    intro p m h h0 h1
    simp only [List.length_cons] at h h1
    refine Ev.step (fun k => by rw [laws_markStepS.l0, if_pos (lt_mid p a r), if_pos (by omega), next64 (by omega), wrap64_id (n := m + 1) (by omega) (by omega), wrap64_id (n := m + 1 + 1) (by omega) (by omega), wrap64_id (n := m + 1 + 1 + 1) (by omega) (by omega), wrap64_id (n := m + 1 + 1 + 1 + 1) (by omega) (by omega), rdSt_mid, set_mid]) ?_
    simp only [Option.bind_some, rdSt_mid, set_mid]
    refine Ev.bind (markText (m + 1 + 1 + 1) (by omega)) ?_
    have := ih (p ++ [markSt m]) (m + 4) (by simp; omega) (by omega) (by omega)
    rw [← snoc_app, lenS_snoc, List.append_assoc] at this
    rw [List.length_cons, marksSt, show m + 4 * ((r.length + 1 : Nat) : Int) = m + 4 + 4 * (r.length : Int) by omega]
    rw [show m + 1 + 1 + 1 + 1 = m + 4 by omega, show m + 1 + 1 + 1 = m + 3 by omega, show m + 1 + 1 = m + 2 by omega]
    exact this
theorem markStp (l : List Stp) (m : Int) (h : l.length < 1000000000000000000) (h0 : 0 ≤ m) (h1 : m + 4 * l.length ≤ 4000000000000000000) : Ev (fun k => laws_markStepS.f k l m) (m + 4 * l.length, marksSt m l.length) := by
  unfold laws_markStepS.f
  have := markStp_l0 l.length h l [] m (by simp) h0 h1
  exact this
theorem heldStp_l0 (N : Nat) (hN : N < 1000000000000000000) (n : Nat) : ∀ (p : List Stp) (m : Int), p.length + n = N → 0 ≤ m → m + 4 * n ≤ 4000000000000000000 →
    Ev (fun k => laws_heldStepS.l0 k (p ++ marksSt m n) m (p.length : Int)) (m + 4 * n) := by
  induction n with
  | zero => intro p m h h0 h1; rw [marksSt]; exact Ev.step (fun k => by rw [laws_heldStepS.l0, if_neg (not_lt_end p)]) (by simpa using Ev.now _)
  | succ n ih =>
    intro p m h h0 h1
    rw [marksSt]
    refine Ev.step (fun k => by rw [laws_heldStepS.l0, if_pos (lt_mid p _ _), if_pos (by omega), rdSt_mid, next64 (by omega), wrap64_id (n := m + 1) (by omega) (by omega), wrap64_id (n := m + 1 + 1) (by omega) (by omega), wrap64_id (n := m + 1 + 1 + 1) (by omega) (by omega), wrap64_id (n := m + 1 + 1 + 1 + 1) (by omega) (by omega), if_pos (show (markSt m).f0 = m from rfl), if_pos (show (markSt m).f1 = m + 1 from rfl), if_pos (show (markSt m).f2 = m + 1 + 1 by show m + 2 = _; omega)]) ?_
    refine Ev.bind (markText (m + 1 + 1 + 1) (by omega)) ?_
    simp only [if_pos (show ((markSt m).f3).toList = (markT (m + 1 + 1 + 1)).toList by show (markT (m + 3)).toList = _; rw [show m + 3 = m + 1 + 1 + 1 by omega])]
    have := ih (p ++ [markSt m]) (m + 4) (by simp; omega) (by omega) (by omega)
    rw [← snoc_app, lenS_snoc] at this
    rw [show m + 4 * ((n + 1 : Nat) : Int) = m + 4 + 4 * (n : Int) by omega, show m + 1 + 1 + 1 + 1 = m + 4 by omega]
    exact this
theorem heldStp (n : Nat) (m : Int) (h : n < 1000000000000000000) (h0 : 0 ≤ m) (h1 : m + 4 * n ≤ 4000000000000000000) : Ev (fun k => laws_heldStepS.f k (marksSt m n) m) (m + 4 * n) := by
  unfold laws_heldStepS.f
  exact heldStp_l0 n h n [] m (by simp) h0 h1
end Go.Proofs.Ytholfbdbgginpaa.Pure
namespace Go.Proofs.Ytholfbdbgginpaa.Pure
set_option linter.unusedVariables false
set_option linter.unusedSimpArgs false
open Go Go.RowKit Go.Proofs.Ytholfbdbgginpaa.Q Go.Proofs.YtholfbdbgginpaaW.PrintWords Go.Proofs.YtholfbdbgginpaaW.PrintLast Go.Proofs.YtholfbdbgginpaaW.PrintMore
def onlyW (l : List Stp) : List Stp := l.filter (fun x => !(x.f0 == 5))
def writesM (l : List Stp) : List Stp := if (l.length : Int) > 20 then [] else onlyW l
theorem onlyW_length (l : List Stp) : (onlyW l).length ≤ l.length := List.length_filter_le _ _
theorem writesM_length (l : List Stp) : (writesM l).length ≤ l.length := by
  unfold writesM; split
  · simp
  · exact onlyW_length l
theorem implOnlyW (l : List Stp) (h : l.length * 40 ≤ 140737488355328) : impl_writes.f l = some (onlyW l) := by
  unfold impl_writes.f; rw [if_pos h]; rfl
theorem implWrites (l : List Stp) : impl_Writes.f l = some (writesM l) := by
  unfold impl_Writes.f writesM
  by_cases h : (l.length : Int) > 20
  · rw [if_pos h, if_pos h]
  · rw [if_neg h, if_neg h, implOnlyW l (by omega)]; rfl
theorem specWrites_l0 (N : Nat) (hN : N ≤ 20) (r : List Stp) : ∀ (p acc : List Stp), p.length + r.length = N → acc.length ≤ p.length → Ev (fun k => spec_Writes.l0 k (p ++ r) acc (p.length : Int)) (acc ++ onlyW r) := by
  induction r with
  | nil =>
    intro p acc h ha
    refine Ev.step (fun k => by rw [spec_Writes.l0, if_neg (not_lt_end p)]) (Ev.step (f := fun _ => some acc) (fun k => by rw [spec_Writes.j1, if_neg (by decide)]) (by simpa [onlyW] using Ev.now _))
  | cons a r ih =>
    intro p acc h ha
    have hlen : ((p ++ a :: r).length : Int) ≤ 20 := by simp at h ⊢; omega
    simp only [List.length_cons] at h
    refine Ev.step (fun k => by rw [spec_Writes.l0, if_pos (lt_mid p a r), decide_eq_true hlen]) (Ev.step (fun k => by rw [spec_Writes.j1, if_pos rfl, if_pos (by omega), if_pos (lt_mid p a r), rdSt_mid, next64 (by omega)]) ?_)
    by_cases g : a.f0 = 5
    · simp only [if_pos g]
      have e : onlyW (a :: r) = onlyW r := by simp [onlyW, g]
      rw [e]
      have := ih (p ++ [a]) acc (by simp; omega) (by simp; omega)
      rw [← snoc_app, lenS_snoc] at this
      exact this
    · simp only [if_neg g, if_pos (show acc.length < 3518437208883 by omega)]
      have e : acc ++ onlyW (a :: r) = (acc ++ [a]) ++ onlyW r := by simp [onlyW, g]
      rw [e]
      have := ih (p ++ [a]) (acc ++ [a]) (by simp; omega) (by simp; omega)
      rw [← snoc_app, lenS_snoc] at this
      exact this
theorem specWrites (l : List Stp) : Ev (fun k => spec_Writes.f k l) (writesM l) := by
  unfold spec_Writes.f writesM
  by_cases h : (l.length : Int) > 20
  · rw [if_pos h]
    refine Ev.step (fun k => by rw [spec_Writes.l0, if_pos (by omega), decide_eq_false (by omega)]) (Ev.step (f := fun _ => some []) (fun k => by rw [spec_Writes.j1, if_neg (by decide)]) (Ev.now _))
  · rw [if_neg h]
    have := specWrites_l0 l.length (by omega) l [] [] (by simp) (by simp)
    exact this
end Go.Proofs.Ytholfbdbgginpaa.Pure
namespace Go.Proofs.Ytholfbdbgginpaa.Pure
set_option linter.unusedVariables false
set_option linter.unusedSimpArgs false
open Go Go.RowKit Go.Proofs.Ytholfbdbgginpaa.Q Go.Proofs.Ytholfbdbgginpaa.Open Go.Proofs.YtholfbdbgginpaaW.PrintWords Go.Proofs.YtholfbdbgginpaaW.PrintLast Go.Proofs.YtholfbdbgginpaaW.PrintMore
theorem FnExactWrites : ∀ l0 : List LStep, okList (fun x : LStep => okInt .i64 x.f0 ∧ okInt .i64 x.f1 ∧ okInt .i64 x.f2 ∧ okStr x.f3) l0 → ∃ k, laws_FnExactWrites.f k l0 = some true := by
  intro l ok
  refine Ev.rounds ?_
  have hM : maxLen ≤ 9223372036854775807 := by decide
  obtain ⟨v, e, hv, v0, v1⟩ := szSt2 l 1048576 (by omega) (by omega) (Nat.le_trans ok.1 hM) (fun s hs => Nat.le_trans (ok.2 s hs).2.2.2 hM)
  unfold laws_FnExactWrites.f
  refine Ev.bind e ?_
  by_cases g : v < 0
  · simp only [if_pos g]; exact Ev.now _
  · have hl := hv g
    simp only [if_neg g]
    have hto := toSt l (by omega)
    have hE : (l.map stpOf).length = l.length := by simp
    generalize l.map stpOf = L at hto hE
    have hW := writesM_length L
    refine Ev.bind hto (Ev.bind (specWrites L) (Ev.bind hto (Ev.bind1 (implWrites L) ?_)))
    have hi := implWrites L
    generalize writesM L = R at hW hi
    refine Ev.bind (eqSt R (by omega)) ?_
    simp only [if_true]
    refine Ev.bind hto (Ev.bind (eqSt L (by omega)) ?_)
    simp only [if_true]
    refine Ev.bind (markStp L 1 (by omega) (by omega) (by omega)) ?_
    simp only [if_neg (show ¬ (1 + 4 * (L.length : Int)) < 0 by omega)]
    refine Ev.bind (eqSt R (by omega)) (Ev.step (fun k => by rw [laws_FnExactWrites.j0, if_neg (by decide)]) ?_)
    refine Ev.bind (markStp R 1 (by omega) (by omega) (by omega)) (Ev.bind (heldStp R.length 1 (by omega) (by omega) (by omega)) ?_)
    simp only [if_neg (show ¬ (1 + 4 * (R.length : Int)) < 0 by omega), if_true]
    refine Ev.bind hto (Ev.bind1 hi (Ev.bind (eqSt R (by omega)) ?_))
    simp only [if_true]
    refine Ev.bind (heldStp R.length 1 (by omega) (by omega) (by omega)) ?_
    simp only [if_neg (show ¬ (1 + 4 * (R.length : Int)) < 0 by omega), if_true]
    exact Ev.now _
end Go.Proofs.Ytholfbdbgginpaa.Pure
