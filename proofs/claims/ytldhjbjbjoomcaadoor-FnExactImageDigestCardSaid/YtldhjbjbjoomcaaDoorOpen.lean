/- What a row reads as data, told as the printed words' kinds: whole numbers, bools, strings, structs of such, slices of such. No conditions but the program's own tables. -/
import Derived.Test.YtldhjbjbjoomcaaDoorWMore
import Derived.ProofKit
import Derived.WalkKit
import Derived.Deep.Slices
import Derived.DataReads
namespace Go.Proofs.YtldhjbjbjoomcaaDoor.Open
set_option linter.unusedVariables false
set_option linter.unusedSimpArgs false
open Go Go.RowKit Go.Deep Go.Proofs.YtldhjbjbjoomcaaDoorW.PrintWords Go.Proofs.YtldhjbjbjoomcaaDoorW.PrintLast Go.Proofs.YtldhjbjbjoomcaaDoorW.PrintMore
/-- Cells of type t that can be read as data are a value of the kind d, for which ok holds. -/
def Opens {α : Type} (d : Kd α) (ok : α → Prop) (P : Program) (t : TypeId) : Prop :=
  ∀ (H : Type) (enc : TypeId × Value → H) (W : World) (base : Nat) (spare : Nat → Bool) (held : Bool) (fuel : Nat) (cs : List Value) (x : DataW H × List MemPlace),
    DataW.trod enc P W base spare held fuel t cs = some x → ∃ a : α, d.K W a cs ∧ ok a
def okInt (k : IntKind) (n : Int) : Prop := (Lit.int k n).wf = true
def okStr (s : ByteArray) : Prop := s.size ≤ maxLen
def okBool (_ : Bool) : Prop := True
def okList {α : Type} (ok : α → Prop) (l : List α) : Prop := l.length ≤ maxLen ∧ ∀ a ∈ l, ok a
theorem opens_int {P : Program} {t : TypeId} {k : IntKind} (ht : P.underlying t = some (.int k)) : Opens (Kd.int k) (okInt k) P t := by
  intro H enc W base spare held fuel cs x h
  obtain ⟨n, rfl, _, hw⟩ := DataW.trod_int ht h
  exact ⟨n, rfl, hw⟩
theorem opens_string {P : Program} {t : TypeId} (ht : P.underlying t = some .string) : Opens Kd.string okStr P t := by
  intro H enc W base spare held fuel cs x h
  obtain ⟨s, rfl, _, hw⟩ := DataW.trod_string ht h
  exact ⟨s, rfl, hw⟩
theorem opens_bool {P : Program} {t : TypeId} (ht : P.underlying t = some .bool) : Opens Kd.bool okBool P t := by
  intro H enc W base spare held fuel cs x h
  obtain ⟨b, rfl, _⟩ := DataW.trod_bool ht h
  exact ⟨b, rfl, trivial⟩
theorem cells_at {w : World} {base : Nat} {a : Addr} {n : Nat} {cs : List Value} (h : w.cells? base a n = some cs) : cs.length = n ∧ ∀ i u, cs[i]? = some u → w.cell? (a.add i) = some u := by
  unfold World.cells? at h
  split at h
  · have hl : cs.length = n := by simpa using mapM_some_length h
    refine ⟨hl, fun i u hi => ?_⟩
    have hil : i < cs.length := (List.getElem?_eq_some_iff.1 hi).1
    have := mapM_some_get h i i (by rw [List.getElem?_range (by omega)])
    rw [this, hi]
  · cases h
theorem opens_slice {α : Type} {d : Kd α} {ok : α → Prop} {P : Program} {t e : TypeId} (z : α) (ht : P.underlying t = some (.slice e)) (hc : P.cellsOf e = d.sz) (he : Opens d ok P e) : Opens (Kd.slice e d) (okList ok) P t := by
  intro H enc W base spare held fuel cs x h
  rcases open_slice ht h with ⟨rfl, _⟩ | ⟨a, len, cap, m, n, D, Pl, rfl, _, hl, hm, hmeq, _, hel⟩
  · exact ⟨[], ⟨none, 0, rfl, Nat.le_refl _, rfl, by simp, fun hp => by simp at hp⟩, by simp [okList], by simp⟩
  · have hlm : len ≤ m := by rw [hmeq]; split <;> omega
    have key : ∀ i, i < len → ∃ y : α, ok y ∧ ∃ c, c.length = d.sz ∧ d.K W y c ∧ ∀ j u, c[j]? = some u → W.cell? (a.add (i * d.sz + j)) = some u := by
      intro i hi
      obtain ⟨cs', h1, h2⟩ := hel i (by omega)
      obtain ⟨y, hy, hok⟩ := he H enc W base spare held n cs' _ h2
      have hca := cells_at h1
      refine ⟨y, hok, cs', by rw [hca.1, hc], hy, fun j u hj => ?_⟩
      have := hca.2 j u hj
      rw [Go.Deep.add_add, hc] at this
      exact this
    let f : Nat → α := fun i => if h : i < len then (key i h).choose else z
    have hf : ∀ i (h : i < len), f i = (key i h).choose := fun i h => by simp only [f]; rw [dif_pos h]
    have hlen : ((List.range len).map f).length = len := by simp
    have hmax : (9223372036854775807 : Nat) ≥ maxLen := by unfold maxLen; omega
    refine ⟨(List.range len).map f, ⟨some a, cap, by rw [hlen], by rw [hlen]; exact hl, ?_⟩, by rw [hlen]; omega, fun y hy => ?_⟩
    · rw [hlen]
      refine ⟨hlen, by omega, fun _ => ⟨a, rfl, fun j p hj => ?_⟩⟩
      have hj' : j < len := by have := (List.getElem?_eq_some_iff.1 hj).1; rwa [hlen] at this
      have e : p = f j := by
        rw [List.getElem?_map, List.getElem?_range hj'] at hj
        simpa using hj.symm
      subst e
      rw [hf j hj']
      obtain ⟨_, c, h1, h2, h3⟩ := (key j hj').choose_spec
      exact ⟨c, h1, h2, h3⟩
    · obtain ⟨i, hi, rfl⟩ := List.mem_map.1 hy
      have hi' : i < len := by simpa using hi
      rw [hf i hi']
      exact (key i hi').choose_spec.1
/-- The fields fs, the first at cell off, tell a value of the kind d. -/
def OpensFs {α : Type} (d : Kd α) (ok : α → Prop) (P : Program) (fs : List Field) (off : Nat) : Prop :=
  ∀ (H : Type) (enc : TypeId × Value → H) (W : World) (base : Nat) (spare : Nat → Bool) (held : Bool) (n : Nat) (cs : List Value), cs.length = off + d.sz →
    (∀ f, f ∈ fs → ∃ y, DataW.trod enc P W base spare held n f.type ((cs.drop f.offset).take (P.cellsOf f.type)) = some y) → ∃ a : α, d.K W a (cs.drop off) ∧ ok a
theorem opensFs_one {α : Type} {d : Kd α} {ok : α → Prop} {P : Program} {f : Field} {off : Nat} (ho : f.offset = off) (hc : P.cellsOf f.type = d.sz) (h : Opens d ok P f.type) : OpensFs d ok P [f] off := by
  intro H enc W base spare held n cs hl hf
  obtain ⟨y, hy⟩ := hf f (by simp)
  rw [ho, hc, List.take_of_length_le (by rw [List.length_drop]; omega)] at hy
  exact h H enc W base spare held n _ _ hy
theorem opensFs_cons {α β : Type} {a : Kd α} {b : Kd β} {oka : α → Prop} {okb : β → Prop} {P : Program} {f : Field} {fs : List Field} {off : Nat} (ho : f.offset = off) (hc : P.cellsOf f.type = a.sz) (h : Opens a oka P f.type) (hs : OpensFs b okb P fs (off + a.sz)) :
    OpensFs (Kd.pair a b) (fun x => oka x.1 ∧ okb x.2) P (f :: fs) off := by
  intro H enc W base spare held n cs hl hf
  have hsz : (Kd.pair a b).sz = a.sz + b.sz := rfl
  rw [hsz] at hl
  obtain ⟨y, hy⟩ := hf f (by simp)
  rw [ho, hc] at hy
  obtain ⟨p, hp, hpo⟩ := h H enc W base spare held n _ _ hy
  obtain ⟨q, hq, hqo⟩ := hs H enc W base spare held n cs (by omega) (fun g hg => hf g (by simp [hg]))
  refine ⟨(p, q), ⟨(cs.drop off).take a.sz, cs.drop (off + a.sz), ?_, hp, hq⟩, hpo, hqo⟩
  rw [← List.drop_drop, List.take_append_drop]
theorem opens_struct {α β : Type} {d : Kd α} {ok : α → Prop} {P : Program} {t : TypeId} {fs : Array Field} (f : β → α) (g : α → β) (hfg : ∀ a, f (g a) = a) (ht : P.underlying t = some (.struct fs)) (hc : P.cellsOf t = d.sz) (h : OpensFs d ok P fs.toList 0) : Opens (Kd.iso d f) (fun x => ok (f x)) P t := by
  intro H enc W base spare held fuel cs x hx
  obtain ⟨xs, n, _, rfl, hl, hlen, hf⟩ := DataW.trod_struct ht hx
  obtain ⟨a, ha, hok⟩ := h H enc W base spare held n cs (by omega) (fun f hf' => by
    obtain ⟨i, hi⟩ := List.getElem?_of_mem hf'
    have hi2 : fs[i]? = some f := by rw [← hi]; simp
    have := hf i f hi2
    have hil : i < xs.length := by rw [hlen]; exact (Array.getElem?_eq_some_iff.1 hi2).1
    rw [List.getElem?_eq_getElem hil] at this
    exact ⟨_, this⟩)
  exact ⟨g a, by show d.K W (f (g a)) cs; rw [hfg]; simpa using ha, by show ok (f (g a)); rw [hfg]; exact hok⟩
end Go.Proofs.YtldhjbjbjoomcaaDoor.Open
