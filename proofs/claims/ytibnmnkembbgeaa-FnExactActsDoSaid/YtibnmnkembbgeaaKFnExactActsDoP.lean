/- Pure texts in one: The program's ActsDo and the reference's ActsDo return the same, for every flash and list of acts; both stay as they were, the result is new memory. -/
import Derived.Test.YtibnmnkembbgeaaKFnExactActsDo0
import Derived.Test.YtibnmnkembbgeaaKFnExactActsDo1
import Derived.Test.YtibnmnkembbgeaaKFnExactActsDo2
import Derived.Test.YtibnmnkembbgeaaKFnExactActsDo3
import Derived.Test.YtibnmnkembbgeaaKFnExactActsDo4
import Derived.Test.YtibnmnkembbgeaaKFnExactActsDo5
import Derived.Test.YtibnmnkembbgeaaKFnExactActsDo6
import Derived.Test.YtibnmnkembbgeaaKFnExactActsDo7
import Derived.Test.YtibnmnkembbgeaaKFnExactActsDo8
import Derived.Test.YtibnmnkembbgeaaKFnExactActsDo9
import Derived.Test.YtibnmnkembbgeaaKFnExactActsDoVMore
import Derived.ProofKit
import Derived.WalkKit
import Derived.Deep.Slices
import Derived.DataReads
import Derived.Laws.BitsAllLaws
import Derived.Laws.Strings
namespace Go.Proofs.Ytibnmnkembbgeaa.Open
set_option linter.unusedVariables false
set_option linter.unusedSimpArgs false
open Go Go.RowKit Go.Deep Go.Proofs.YtibnmnkembbgeaaW.PrintWords Go.Proofs.YtibnmnkembbgeaaW.PrintLast Go.Proofs.YtibnmnkembbgeaaW.PrintMore
/-- Cells of type t that can be read as data are a value of the kind d, for which ok holds. -/
def Opens {α : Type} (d : Kd α) (ok : α → Prop) (P : Program) (t : TypeId) : Prop :=
  ∀ (H : Type) (enc : TypeId × Value → H) (W : World) (base : Nat) (spare : Nat → Bool) (held : Bool) (fuel : Nat) (cs : List Value) (x : DataW H × List MemPlace),
    DataW.trod enc P W base spare held fuel t cs = some x → ∃ a : α, d.K W a cs ∧ ok a
def okInt (k : IntKind) (n : Int) : Prop := (Lit.int k n).wf = true
def okStr (s : ByteArray) : Prop := s.size ≤ maxLen
def okBool (_ : Bool) : Prop := True
def okList {α : Type} (ok : α → Prop) (l : List α) : Prop := l.length ≤ maxLen ∧ ∀ a ∈ l, ok a
theorem opens_int {P : Program} {t : TypeId} {k : IntKind} (ht : P.underlying t = some (.int k)) : Opens (Kd.int k) (okInt k) P t := by
  intro H enc W base spare held fuel cs x h
  obtain ⟨n, rfl, _, hw⟩ := DataW.trod_int ht h
  exact ⟨n, rfl, hw⟩
theorem opens_string {P : Program} {t : TypeId} (ht : P.underlying t = some .string) : Opens Kd.string okStr P t := by
  intro H enc W base spare held fuel cs x h
  obtain ⟨s, rfl, _, hw⟩ := DataW.trod_string ht h
  exact ⟨s, rfl, hw⟩
theorem opens_bool {P : Program} {t : TypeId} (ht : P.underlying t = some .bool) : Opens Kd.bool okBool P t := by
  intro H enc W base spare held fuel cs x h
  obtain ⟨b, rfl, _⟩ := DataW.trod_bool ht h
  exact ⟨b, rfl, trivial⟩
theorem cells_at {w : World} {base : Nat} {a : Addr} {n : Nat} {cs : List Value} (h : w.cells? base a n = some cs) : cs.length = n ∧ ∀ i u, cs[i]? = some u → w.cell? (a.add i) = some u := by
  unfold World.cells? at h
  split at h
  · have hl : cs.length = n := by simpa using mapM_some_length h
    refine ⟨hl, fun i u hi => ?_⟩
    have hil : i < cs.length := (List.getElem?_eq_some_iff.1 hi).1
    have := mapM_some_get h i i (by rw [List.getElem?_range (by omega)])
    rw [this, hi]
  · cases h
theorem opens_slice {α : Type} {d : Kd α} {ok : α → Prop} {P : Program} {t e : TypeId} (z : α) (ht : P.underlying t = some (.slice e)) (hc : P.cellsOf e = d.sz) (he : Opens d ok P e) : Opens (Kd.slice e d) (okList ok) P t := by
  intro H enc W base spare held fuel cs x h
  rcases open_slice ht h with ⟨rfl, _⟩ | ⟨a, len, cap, m, n, D, Pl, rfl, _, hl, hm, hmeq, _, hel⟩
  · exact ⟨[], ⟨none, 0, rfl, Nat.le_refl _, rfl, by simp, fun hp => by simp at hp⟩, by simp [okList], by simp⟩
  · have hlm : len ≤ m := by rw [hmeq]; split <;> omega
    have key : ∀ i, i < len → ∃ y : α, ok y ∧ ∃ c, c.length = d.sz ∧ d.K W y c ∧ ∀ j u, c[j]? = some u → W.cell? (a.add (i * d.sz + j)) = some u := by
      intro i hi
      obtain ⟨cs', h1, h2⟩ := hel i (by omega)
      obtain ⟨y, hy, hok⟩ := he H enc W base spare held n cs' _ h2
      have hca := cells_at h1
      refine ⟨y, hok, cs', by rw [hca.1, hc], hy, fun j u hj => ?_⟩
      have := hca.2 j u hj
      rw [Go.Deep.add_add, hc] at this
      exact this
    let f : Nat → α := fun i => if h : i < len then (key i h).choose else z
    have hf : ∀ i (h : i < len), f i = (key i h).choose := fun i h => by simp only [f]; rw [dif_pos h]
    have hlen : ((List.range len).map f).length = len := by simp
    have hmax : (9223372036854775807 : Nat) ≥ maxLen := by unfold maxLen; omega
    refine ⟨(List.range len).map f, ⟨some a, cap, by rw [hlen], by rw [hlen]; exact hl, ?_⟩, by rw [hlen]; omega, fun y hy => ?_⟩
    · rw [hlen]
      refine ⟨hlen, by omega, fun _ => ⟨a, rfl, fun j p hj => ?_⟩⟩
      have hj' : j < len := by have := (List.getElem?_eq_some_iff.1 hj).1; rwa [hlen] at this
      have e : p = f j := by
        rw [List.getElem?_map, List.getElem?_range hj'] at hj
        simpa using hj.symm
      subst e
      rw [hf j hj']
      obtain ⟨_, c, h1, h2, h3⟩ := (key j hj').choose_spec
      exact ⟨c, h1, h2, h3⟩
    · obtain ⟨i, hi, rfl⟩ := List.mem_map.1 hy
      have hi' : i < len := by simpa using hi
      rw [hf i hi']
      exact (key i hi').choose_spec.1
/-- The fields fs, the first at cell off, tell a value of the kind d. -/
def OpensFs {α : Type} (d : Kd α) (ok : α → Prop) (P : Program) (fs : List Field) (off : Nat) : Prop :=
  ∀ (H : Type) (enc : TypeId × Value → H) (W : World) (base : Nat) (spare : Nat → Bool) (held : Bool) (n : Nat) (cs : List Value), cs.length = off + d.sz →
    (∀ f, f ∈ fs → ∃ y, DataW.trod enc P W base spare held n f.type ((cs.drop f.offset).take (P.cellsOf f.type)) = some y) → ∃ a : α, d.K W a (cs.drop off) ∧ ok a
theorem opensFs_one {α : Type} {d : Kd α} {ok : α → Prop} {P : Program} {f : Field} {off : Nat} (ho : f.offset = off) (hc : P.cellsOf f.type = d.sz) (h : Opens d ok P f.type) : OpensFs d ok P [f] off := by
  intro H enc W base spare held n cs hl hf
  obtain ⟨y, hy⟩ := hf f (by simp)
  rw [ho, hc, List.take_of_length_le (by rw [List.length_drop]; omega)] at hy
  exact h H enc W base spare held n _ _ hy
theorem opensFs_cons {α β : Type} {a : Kd α} {b : Kd β} {oka : α → Prop} {okb : β → Prop} {P : Program} {f : Field} {fs : List Field} {off : Nat} (ho : f.offset = off) (hc : P.cellsOf f.type = a.sz) (h : Opens a oka P f.type) (hs : OpensFs b okb P fs (off + a.sz)) :
    OpensFs (Kd.pair a b) (fun x => oka x.1 ∧ okb x.2) P (f :: fs) off := by
  intro H enc W base spare held n cs hl hf
  have hsz : (Kd.pair a b).sz = a.sz + b.sz := rfl
  rw [hsz] at hl
  obtain ⟨y, hy⟩ := hf f (by simp)
  rw [ho, hc] at hy
  obtain ⟨p, hp, hpo⟩ := h H enc W base spare held n _ _ hy
  obtain ⟨q, hq, hqo⟩ := hs H enc W base spare held n cs (by omega) (fun g hg => hf g (by simp [hg]))
  refine ⟨(p, q), ⟨(cs.drop off).take a.sz, cs.drop (off + a.sz), ?_, hp, hq⟩, hpo, hqo⟩
  rw [← List.drop_drop, List.take_append_drop]
theorem opens_struct {α β : Type} {d : Kd α} {ok : α → Prop} {P : Program} {t : TypeId} {fs : Array Field} (f : β → α) (g : α → β) (hfg : ∀ a, f (g a) = a) (ht : P.underlying t = some (.struct fs)) (hc : P.cellsOf t = d.sz) (h : OpensFs d ok P fs.toList 0) : Opens (Kd.iso d f) (fun x => ok (f x)) P t := by
  intro H enc W base spare held fuel cs x hx
  obtain ⟨xs, n, _, rfl, hl, hlen, hf⟩ := DataW.trod_struct ht hx
  obtain ⟨a, ha, hok⟩ := h H enc W base spare held n cs (by omega) (fun f hf' => by
    obtain ⟨i, hi⟩ := List.getElem?_of_mem hf'
    have hi2 : fs[i]? = some f := by rw [← hi]; simp
    have := hf i f hi2
    have hil : i < xs.length := by rw [hlen]; exact (Array.getElem?_eq_some_iff.1 hi2).1
    rw [List.getElem?_eq_getElem hil] at this
    exact ⟨_, this⟩)
  exact ⟨g a, by show d.K W (f (g a)) cs; rw [hfg]; simpa using ha, by show ok (f (g a)); rw [hfg]; exact hok⟩
end Go.Proofs.Ytibnmnkembbgeaa.Open
namespace Go.Proofs.Ytibnmnkembbgeaa.Pure
set_option linter.unusedVariables false
set_option linter.unusedSimpArgs false
open Go Go.RowKit Go.Proofs.YtibnmnkembbgeaaW.PrintWords Go.Proofs.YtibnmnkembbgeaaW.PrintLast Go.Proofs.YtibnmnkembbgeaaW.PrintMore
theorem wrap64_id {n : Int} (h0 : -9223372036854775808 ≤ n) (h1 : n ≤ 9223372036854775807) : wrap64 n = n := by
  unfold wrap64; omega
/-- One is known without rounds. -/
theorem Ev.bind1 {α β : Type} {g : Option α} {f : Nat → α → Option β} {a : α} {r : β} (h : g = some a) (k : Ev (fun n => f n a) r) : Ev (fun n => g.bind (f n)) r := by
  subst h
  exact k
end Go.Proofs.Ytibnmnkembbgeaa.Pure
namespace Go.Proofs.Ytibnmnkembbgeaa.Pure
set_option linter.unusedVariables false
set_option linter.unusedSimpArgs false
open Go Go.RowKit Go.Proofs.YtibnmnkembbgeaaW.PrintWords Go.Proofs.YtibnmnkembbgeaaW.PrintLast Go.Proofs.YtibnmnkembbgeaaW.PrintMore
theorem set_mid {α : Type} (p : List α) (a b : α) (r : List α) : (p ++ a :: r).set (p.length : Int).toNat b = p ++ b :: r := by simp
theorem snoc_app {α : Type} (p : List α) (a : α) (r : List α) : p ++ a :: r = (p ++ [a]) ++ r := by simp
theorem lt_mid {α : Type} (p : List α) (a : α) (r : List α) : (p.length : Int) < ((p ++ a :: r).length : Int) := by rw [List.length_append, List.length_cons]; omega
theorem not_lt_end {α : Type} (p : List α) : ¬ (p.length : Int) < ((p ++ []).length : Int) := by rw [List.append_nil]; omega
theorem next64 {i : Nat} (h : i < 9223372036854775807) : wrap64 ((i : Int) + 1) = ((i + 1 : Nat) : Int) := by rw [wrap64_id (by omega) (by omega)]; omega
end Go.Proofs.Ytibnmnkembbgeaa.Pure
namespace Go.Proofs.Ytibnmnkembbgeaa.Pure
set_option linter.unusedVariables false
set_option linter.unusedSimpArgs false
open Go Go.RowKit Go.Proofs.Ytibnmnkembbgeaa.Q Go.Proofs.YtibnmnkembbgeaaW.PrintWords Go.Proofs.YtibnmnkembbgeaaW.PrintLast Go.Proofs.YtibnmnkembbgeaaW.PrintMore
def mtGo : Nat → Nat → ByteArray → ByteArray
  | 0, _, acc => (⟨#[109]⟩ : ByteArray) ++ acc
  | d + 1, x, acc => if x = 0 then (⟨#[109]⟩ : ByteArray) ++ acc else mtGo d (x / 10) (strOfNums [(wrap64 (48 + (Int.tmod (x : Int) 10))) % 256] ++ acc)
def markT (m : Int) : ByteArray := if m ≤ 0 then (⟨#[109, 48]⟩ : ByteArray) else mtGo 19 m.toNat (⟨#[]⟩ : ByteArray)
theorem markText_l0 (d : Nat) : ∀ (x : Nat) (acc : ByteArray), x < 10 ^ d → x < 9223372036854775807 → acc.size + d ≤ 1000 → Ev (fun k => laws_markText.l0 k (x : Int) acc) (mtGo d x acc) := by
  induction d with
  | zero =>
    intro x acc h _ hs
    simp only [Nat.pow_zero, Nat.lt_one_iff] at h
    subst h
    exact Ev.step (fun k => by rw [laws_markText.l0, if_neg (by omega), if_pos (by omega)]) (by rw [mtGo]; exact Ev.now _)
  | succ d ih =>
    intro x acc h h6 hs
    rw [mtGo]
    by_cases g : x = 0
    · subst g
      exact Ev.step (fun k => by rw [laws_markText.l0, if_neg (by omega), if_pos (by omega)]) (by rw [if_pos rfl]; exact Ev.now _)
    · rw [if_neg g]
      have e1 : wrap64 (Int.tdiv (x : Int) 10) = ((x / 10 : Nat) : Int) := by
        rw [Int.tdiv_eq_ediv_of_nonneg (by omega), wrap64_id (by omega) (by omega)]; omega
      have e2 : (strOfNums [(wrap64 (48 + (Int.tmod (x : Int) 10))) % 256]).size = 1 := by rw [strOfNums_size]; rfl
      refine Ev.step (fun k => by rw [laws_markText.l0, if_pos (by omega), Option.bind_some, if_pos (by rw [e2]; omega), e1]) ?_
      exact ih (x / 10) _ (by rw [Nat.pow_succ] at h; omega) (by omega) (by rw [ByteArray.size_append, e2]; omega)
theorem markText (m : Int) (h : m ≤ 4000000000000000000) : Ev (fun k => laws_markText.f k m) (markT m) := by
  unfold laws_markText.f markT
  by_cases g : m ≤ 0
  · simp only [if_pos g]; exact Ev.now _
  · simp only [if_neg g]
    have := markText_l0 19 m.toNat (⟨#[]⟩ : ByteArray) (by omega) (by omega) (by decide)
    rw [Int.toNat_of_nonneg (by omega)] at this
    exact this
end Go.Proofs.Ytibnmnkembbgeaa.Pure
namespace Go.Proofs.Ytibnmnkembbgeaa.Pure
set_option linter.unusedVariables false
set_option linter.unusedSimpArgs false
open Go Go.RowKit Go.Proofs.Ytibnmnkembbgeaa.Q Go.Proofs.YtibnmnkembbgeaaW.PrintWords Go.Proofs.YtibnmnkembbgeaaW.PrintLast Go.Proofs.YtibnmnkembbgeaaW.PrintMore
theorem rdS_mid (p : List ByteArray) (a : ByteArray) (r : List ByteArray) : rdOf ByteArray.empty (p ++ a :: r) (p.length : Int) = a := by simp [rdOf]
theorem lenS_snoc {α : Type} (q : List α) (e : α) : (q ++ [e]).length = q.length + 1 := by simp
theorem eqStr_l0 (N : Nat) (hN : N < 9223372036854775807) (r : List ByteArray) : ∀ p : List ByteArray, p.length + r.length = N → Ev (fun k => laws_eqStringS.l0 k (p ++ r) (p ++ r) (p.length : Int)) true := by
  induction r with
  | nil => intro p h; exact Ev.step (fun k => by rw [laws_eqStringS.l0, if_neg (not_lt_end p)]) (Ev.now _)
  | cons a r ih =>
    intro p h
    simp only [List.length_cons] at h
    refine Ev.step (fun k => by rw [laws_eqStringS.l0, if_pos (lt_mid p a r), if_pos (by omega), if_pos (lt_mid p a r), if_pos rfl, next64 (by omega)]) ?_
    have := ih (p ++ [a]) (by simp; omega)
    rw [← snoc_app, lenS_snoc] at this
    exact this
theorem eqStr (l : List ByteArray) (h : l.length < 9223372036854775807) : Ev (fun k => laws_eqStringS.f k l l) true := by
  unfold laws_eqStringS.f
  simp only [if_true]
  exact eqStr_l0 l.length h l [] (by simp)
end Go.Proofs.Ytibnmnkembbgeaa.Pure
namespace Go.Proofs.Ytibnmnkembbgeaa.Pure
set_option linter.unusedVariables false
set_option linter.unusedSimpArgs false
open Go Go.RowKit Go.Proofs.Ytibnmnkembbgeaa.Q Go.Proofs.YtibnmnkembbgeaaW.PrintWords Go.Proofs.YtibnmnkembbgeaaW.PrintLast Go.Proofs.YtibnmnkembbgeaaW.PrintMore
abbrev LDty := S132
abbrev Dty := S92
def dtyOf (x : LDty) : Dty := ⟨x.f0, x.f1⟩
theorem rdLD_mid (p : List LDty) (a : LDty) (r : List LDty) : rd_T132 (p ++ a :: r) (p.length : Int) = a := by simp [rd_T132]
theorem rdD_mid (p : List Dty) (a : Dty) (r : List Dty) : rd_T92 (p ++ a :: r) (p.length : Int) = a := by simp [rd_T92]
theorem toDt_l0 (N : Nat) (hN : N < 9223372036854775807) (r : List LDty) : ∀ p : List LDty, p.length + r.length = N →
    Ev (fun k => laws_toDirtyS.l0 k (p ++ r) (p.map dtyOf ++ List.replicate r.length z92) (p.length : Int)) ((p ++ r).map dtyOf) := by
  induction r with
  | nil => intro p h; exact Ev.step (fun k => by rw [laws_toDirtyS.l0, if_neg (not_lt_end p)]) (by simpa using Ev.now _)
  | cons a r ih =>
    intro p h
    simp only [List.length_cons] at h
    have hl : (p.length : Int) < ((p.map dtyOf ++ List.replicate (a :: r).length z92).length : Int) := by simp only [List.length_append, List.length_map, List.length_replicate, List.length_cons]; omega
    refine Ev.step (fun k => by rw [laws_toDirtyS.l0, if_pos (lt_mid p a r), if_pos (by omega), rdLD_mid, next64 (by omega)]) ?_
    refine Ev.bind1 (a := (a.f0, a.f1)) (by unfold laws_toDirty.f; rfl) ?_
    simp only [if_pos hl]
    have := ih (p ++ [a]) (by simp; omega)
    rw [← snoc_app, lenS_snoc] at this
    have e : (p.map dtyOf ++ List.replicate (a :: r).length z92).set ((p.length : Nat) : Int).toNat (⟨a.f0, a.f1⟩ : Dty) = (p ++ [a]).map dtyOf ++ List.replicate r.length z92 := by
      rw [List.length_cons, List.replicate_succ]
      have := set_mid (p.map dtyOf) z92 (⟨a.f0, a.f1⟩ : Dty) (List.replicate r.length z92)
      rw [List.length_map] at this
      rw [this]; simp [dtyOf]
    rw [← e] at this
    exact this
theorem toDt (l : List LDty) (h : l.length ≤ 11728124029610) : Ev (fun k => laws_toDirtyS.f k l) (l.map dtyOf) := by
  unfold laws_toDirtyS.f
  simp only [if_pos (show (0 : Int) ≤ (l.length : Int) by omega), if_pos (show ((l.length : Int)).toNat ≤ 11728124029610 by omega), Int.toNat_natCast]
  have := toDt_l0 l.length (by omega) l [] (by simp)
  simpa [h] using this
theorem szDt_l0 (N : Nat) (hN : N ≤ 1048576) (r : List LDty) : ∀ (p : List LDty) (x : Int), p.length + r.length = N → 0 ≤ x → x ≤ 1048576 → (∀ s ∈ r, s.f1.size ≤ 9223372036854775807) →
    ∃ v, Ev (fun k => laws_szDirtyS.l0 k (p ++ r) x (p.length : Int)) v ∧ -1 ≤ v ∧ v ≤ 1048576 := by
  induction r with
  | nil => intro p x h h0 h1 _; exact ⟨x, Ev.step (fun k => by rw [laws_szDirtyS.l0, if_neg (not_lt_end p)]) (Ev.now _), by omega, by omega⟩
  | cons a r ih =>
    intro p x h h0 h1 hs
    simp only [List.length_cons] at h
    have ha := hs a (by simp)
    by_cases g : x - (a.f1.size : Int) < 0
    · refine ⟨-1, Ev.step (fun k => by rw [laws_szDirtyS.l0, if_pos (lt_mid p a r), if_pos (by omega), rdLD_mid]) (Ev.bind1 (a := -1) (by unfold laws_szDirty.f; rw [wrap64_id (n := x - (a.f1.size : Int)) (by omega) (by omega), if_pos g]) ?_), by omega, by omega⟩
      simp only [show ((-1 : Int) < 0) from by decide, if_true]; exact Ev.now _
    · obtain ⟨v, e, b0, b1⟩ := ih (p ++ [a]) (x - (a.f1.size : Int)) (by simp; omega) (by omega) (by omega) (fun s h => hs s (by simp [h]))
      rw [← snoc_app, lenS_snoc] at e
      refine ⟨v, Ev.step (fun k => by rw [laws_szDirtyS.l0, if_pos (lt_mid p a r), if_pos (by omega), rdLD_mid, next64 (by omega)]) (Ev.bind1 (a := x - (a.f1.size : Int)) (by unfold laws_szDirty.f; rw [wrap64_id (n := x - (a.f1.size : Int)) (by omega) (by omega), if_neg g]) ?_), b0, b1⟩
      simp only [if_neg g]; exact e
theorem szDt2 (l : List LDty) (x : Int) (h0 : 0 ≤ x) (h1 : x ≤ 1048576) (hl : l.length ≤ 9223372036854775807) (hs : ∀ s ∈ l, s.f1.size ≤ 9223372036854775807) : ∃ v, Ev (fun k => laws_szDirtyS.f k l x) v ∧ (¬ v < 0 → l.length ≤ 1048576) ∧ -1 ≤ v ∧ v ≤ 1048576 := by
  unfold laws_szDirtyS.f
  rw [wrap64_id (n := x - (l.length : Int)) (by omega) (by omega)]
  by_cases g : x - (l.length : Int) < 0
  · exact ⟨-1, by simp only [if_pos g]; exact Ev.now _, by omega, by omega, by omega⟩
  · obtain ⟨v, e, b0, b1⟩ := szDt_l0 l.length (by omega) l [] (x - (l.length : Int)) (by simp) (by omega) (by omega) hs
    exact ⟨v, by simp only [if_neg g]; exact e, by omega, b0, b1⟩
theorem eqDt_l0 (N : Nat) (hN : N < 9223372036854775807) (r : List Dty) : ∀ p : List Dty, p.length + r.length = N → Ev (fun k => laws_eqDirtyS.l0 k (p ++ r) (p ++ r) (p.length : Int)) true := by
  induction r with
  | nil => intro p h; exact Ev.step (fun k => by rw [laws_eqDirtyS.l0, if_neg (not_lt_end p)]) (Ev.now _)
  | cons a r ih =>
    intro p h
    simp only [List.length_cons] at h
    refine Ev.step (fun k => by rw [laws_eqDirtyS.l0, if_pos (lt_mid p a r), if_pos (by omega), if_pos (lt_mid p a r), rdD_mid, next64 (by omega)]) ?_
    refine Ev.bind1 (a := true) (by unfold laws_eqDirty.f; simp) ?_
    simp only [if_true]
    have := ih (p ++ [a]) (by simp; omega)
    rw [← snoc_app, lenS_snoc] at this
    exact this
theorem eqDt (l : List Dty) (h : l.length < 9223372036854775807) : Ev (fun k => laws_eqDirtyS.f k l l) true := by
  unfold laws_eqDirtyS.f
  simp only [if_true]
  exact eqDt_l0 l.length h l [] (by simp)
def markDt (m : Int) : Dty := ⟨m, markT (m + 1)⟩
def marksDt : Int → Nat → List Dty
  | _, 0 => []
  | m, n + 1 => markDt m :: marksDt (m + 2) n
theorem markDty_l0 (N : Nat) (hN : N < 1000000000000000000) (r : List Dty) : ∀ (p : List Dty) (m : Int), p.length + r.length = N → 0 ≤ m → m + 2 * r.length ≤ 4000000000000000000 →
    Ev (fun k => laws_markDirtyS.l0 k (p ++ r) m (p.length : Int)) (m + 2 * r.length, p ++ marksDt m r.length) := by
  induction r with
  | nil => intro p m h h0 h1; exact Ev.step (fun k => by rw [laws_markDirtyS.l0, if_neg (not_lt_end p)]) (by simpa [marksDt] using Ev.now _)
  | cons a r ih =>
    intro p m h h0 h1
    simp only [List.length_cons] at h h1
    refine Ev.step (fun k => by rw [laws_markDirtyS.l0, if_pos (lt_mid p a r), if_pos (by omega), next64 (by omega), wrap64_id (n := m + 1) (by omega) (by omega), wrap64_id (n := m + 1 + 1) (by omega) (by omega), rdD_mid, set_mid]) ?_
    simp only [Option.bind_some, rdD_mid, set_mid]
    refine Ev.bind (markText (m + 1) (by omega)) ?_
    have := ih (p ++ [markDt m]) (m + 2) (by simp; omega) (by omega) (by omega)
    rw [← snoc_app, lenS_snoc, List.append_assoc] at this
    rw [List.length_cons, marksDt, show m + 2 * ((r.length + 1 : Nat) : Int) = m + 2 + 2 * (r.length : Int) by omega]
    rw [show m + 1 + 1 = m + 2 by omega]
    exact this
theorem markDty (l : List Dty) (m : Int) (h : l.length < 1000000000000000000) (h0 : 0 ≤ m) (h1 : m + 2 * l.length ≤ 4000000000000000000) : Ev (fun k => laws_markDirtyS.f k l m) (m + 2 * l.length, marksDt m l.length) := by
  unfold laws_markDirtyS.f
  have := markDty_l0 l.length h l [] m (by simp) h0 h1
  exact this
theorem heldDty_l0 (N : Nat) (hN : N < 1000000000000000000) (n : Nat) : ∀ (p : List Dty) (m : Int), p.length + n = N → 0 ≤ m → m + 2 * n ≤ 4000000000000000000 →
    Ev (fun k => laws_heldDirtyS.l0 k (p ++ marksDt m n) m (p.length : Int)) (m + 2 * n) := by
  induction n with
  | zero => intro p m h h0 h1; rw [marksDt]; exact Ev.step (fun k => by rw [laws_heldDirtyS.l0, if_neg (not_lt_end p)]) (by simpa using Ev.now _)
  | succ n ih =>
    intro p m h h0 h1
    rw [marksDt]
    refine Ev.step (fun k => by rw [laws_heldDirtyS.l0, if_pos (lt_mid p _ _), if_pos (by omega), rdD_mid, next64 (by omega), wrap64_id (n := m + 1) (by omega) (by omega), wrap64_id (n := m + 1 + 1) (by omega) (by omega), if_pos (show (markDt m).f0 = m from rfl)]) ?_
    refine Ev.bind (markText (m + 1) (by omega)) ?_
    simp only [if_pos (show ((markDt m).f1).toList = (markT (m + 1)).toList from rfl)]
    have := ih (p ++ [markDt m]) (m + 2) (by simp; omega) (by omega) (by omega)
    rw [← snoc_app, lenS_snoc] at this
    rw [show m + 2 * ((n + 1 : Nat) : Int) = m + 2 + 2 * (n : Int) by omega, show m + 1 + 1 = m + 2 by omega]
    exact this
theorem heldDty (n : Nat) (m : Int) (h : n < 1000000000000000000) (h0 : 0 ≤ m) (h1 : m + 2 * n ≤ 4000000000000000000) : Ev (fun k => laws_heldDirtyS.f k (marksDt m n) m) (m + 2 * n) := by
  unfold laws_heldDirtyS.f
  exact heldDty_l0 n h n [] m (by simp) h0 h1
end Go.Proofs.Ytibnmnkembbgeaa.Pure
namespace Go.Proofs.Ytibnmnkembbgeaa.Pure
set_option linter.unusedVariables false
set_option linter.unusedSimpArgs false
open Go Go.RowKit Go.Proofs.Ytibnmnkembbgeaa.Q Go.Proofs.YtibnmnkembbgeaaW.PrintWords Go.Proofs.YtibnmnkembbgeaaW.PrintLast Go.Proofs.YtibnmnkembbgeaaW.PrintMore
theorem l03Is_eq (a b c : Int) : spec_l03Is.f a b c = some (decide (b ≤ a ∧ a ≤ c)) := by
  unfold spec_l03Is.f
  by_cases h : a ≥ b
  · rw [if_pos h]; congr 1; rw [Bool.eq_iff_iff]; simp; omega
  · rw [if_neg h]; congr 1; simp; omega
end Go.Proofs.Ytibnmnkembbgeaa.Pure
namespace Go.Proofs.Ytibnmnkembbgeaa.Pure
set_option linter.unusedVariables false
set_option linter.unusedSimpArgs false
open Go Go.RowKit Go.Proofs.Ytibnmnkembbgeaa.Q Go.Proofs.YtibnmnkembbgeaaW.PrintWords Go.Proofs.YtibnmnkembbgeaaW.PrintLast Go.Proofs.YtibnmnkembbgeaaW.PrintMore
theorem idx_before {α : Type} (p : α → Bool) (x : α) (r : List α) (hx : p x = true) : ∀ (a : List α) (i : Int), (idxFrom p (a ++ x :: r) i < i + a.length ↔ a.any p = true) := by
  intro a
  induction a with
  | nil => intro i; simp [idxFrom, hx]
  | cons y a ih =>
    intro i
    rw [List.cons_append, idxFrom, List.any_cons]
    by_cases h : p y = true
    · rw [if_pos h, h]; simp; omega
    · rw [if_neg h, Bool.eq_false_iff.2 h, Bool.false_or, ← ih (i + 1)]; simp only [List.length_cons]; omega
def dirtM (n : Int) : List Dty → List Dty → Bool
  | _, [] => true
  | p, x :: r => if impl_isFlash.has n x.f0 = true then (if (x.f1.size : Int) > 96 then false else if p.any (impl_Flash_dirty.is x.f0) = true then false else dirtM n (p ++ [x]) r) else false
def flashM (S : List ByteArray) (D : List Dty) : Bool := impl_isFlash.head S D && dirtM S.length [] D
theorem scan_eq (n : Int) (r : List Dty) : ∀ (p : List Dty), impl_isFlash.scan n (p ++ r) r (p.length : Int) = dirtM n p r := by
  induction r with
  | nil => intro p; rfl
  | cons x r ih =>
    intro p
    have e : ((p.length : Int) + 1) = ((p ++ [x]).length : Int) := by simp
    have ea : p ++ x :: r = (p ++ [x]) ++ r := by simp
    have hx : impl_Flash_dirty.is x.f0 x = true := by simp [impl_Flash_dirty.is]
    have hb := idx_before (impl_Flash_dirty.is x.f0) x r hx p 0
    rw [Int.zero_add] at hb
    have ih' := ih (p ++ [x])
    rw [← ea, ← e] at ih'
    rw [impl_isFlash.scan, dirtM, ih']
    by_cases g : p.any (impl_Flash_dirty.is x.f0) = true
    · simp only [if_pos g, if_pos (hb.2 g)]
    · simp only [if_neg g, if_neg (fun h => g (hb.1 h))]
theorem implFlash (S : List ByteArray) (D : List Dty) (h1 : S.length ≤ 9223372036854775807) (h2 : D.length ≤ 9223372036854775807) : impl_isFlash.f S D = some (flashM S D) := by
  have := scan_eq S.length D []
  unfold impl_isFlash.f flashM
  rw [if_pos ⟨h1, h2⟩, ← this]; rfl
theorem specTwo (n : Nat) (S : List ByteArray) (L : List Dty) (x : Dty) (r : List Dty) (R : Bool) (q2 : List Dty) : ∀ (q1 : List Dty), (q1 ++ q2).length ≤ 40 → L = (q1 ++ q2) ++ x :: r →
    Ev (fun k => spec_FlashRight.l1 k (((q1 ++ q2).length : Int) + 1) S L) R →
    Ev (fun k => spec_FlashRight.l2 k ((q1 ++ q2).length : Int) (q1.length : Int) S L) (if q2.any (impl_Flash_dirty.is x.f0) = true then false else R) := by
  induction q2 with
  | nil =>
    intro q1 h hL hR
    rw [List.append_nil] at h hL hR ⊢
    refine Ev.step (f := fun k => spec_FlashRight.l1 k ((q1.length : Int) + 1) S L) (fun k => by rw [spec_FlashRight.l2, if_neg (by omega), wrap64_id (n := (q1.length : Int) + 1) (by omega) (by omega)]) ?_
    simpa using hR
  | cons y q2 ih =>
    intro q1 h hL hR
    have ea : q1 ++ y :: q2 = (q1 ++ [y]) ++ q2 := by simp
    have hlen : (q1 ++ y :: q2).length = q1.length + 1 + q2.length := by simp; omega
    have hy : rd_T92 L (q1.length : Int) = y := by rw [hL, List.append_assoc, List.cons_append]; exact rdD_mid _ _ _
    have hxx : rd_T92 L ((q1 ++ y :: q2).length : Int) = x := by rw [hL]; exact rdD_mid _ _ _
    have hLl : ((q1 ++ y :: q2).length : Int) < (L.length : Int) := by rw [hL]; exact lt_mid _ _ _
    have ih' := ih (q1 ++ [y]) (by rw [← ea]; exact h) (by rw [← ea]; exact hL) (by rw [← ea]; exact hR)
    rw [← ea, lenS_snoc] at ih'
    refine Ev.step (fun k => by rw [spec_FlashRight.l2, if_pos (by omega), if_pos (show (0 : Int) ≤ (q1.length : Int) by omega), if_pos (show (q1.length : Int) < (L.length : Int) by omega), if_pos (by omega), if_pos hLl, hy, hxx, next64 (by omega)]) ?_
    rw [List.any_cons]
    by_cases g : y.f0 = x.f0
    · simp only [if_pos g]
      rw [show impl_Flash_dirty.is x.f0 y = true by simp [impl_Flash_dirty.is, g], Bool.true_or, if_pos rfl]
      exact Ev.now _
    · simp only [if_neg g]
      rw [show impl_Flash_dirty.is x.f0 y = false by simp [impl_Flash_dirty.is, g], Bool.false_or]
      exact ih'
theorem specDirt (S : List ByteArray) (hS : 1 ≤ S.length ∧ S.length ≤ 40) (L : List Dty) (hL : L.length ≤ 40) (r : List Dty) : ∀ (p : List Dty), L = p ++ r → Ev (fun k => spec_FlashRight.l1 k (p.length : Int) S L) (dirtM S.length p r) := by
  induction r with
  | nil =>
    intro p h
    subst h
    exact Ev.step (f := fun _ => some true) (fun k => by rw [spec_FlashRight.l1, if_neg (not_lt_end p)]) (Ev.now _)
  | cons x r ih =>
    intro p h
    have hl : p.length + 1 + r.length ≤ 40 := by rw [h] at hL; simp at hL; omega
    have hlt : (p.length : Int) < (L.length : Int) := by rw [h]; exact lt_mid p x r
    have hx : rd_T92 L (p.length : Int) = x := by rw [h]; exact rdD_mid _ _ _
    have ih' := ih (p ++ [x]) (by rw [h]; simp)
    rw [lenS_snoc] at ih'
    have h2 := specTwo 0 S L x r _ p [] (by simp; omega) (by simpa using h) (by simpa using ih')
    rw [List.nil_append] at h2
    refine Ev.step (fun k => by rw [spec_FlashRight.l1, if_pos hlt, if_pos (by omega), hx, wrap64_id (n := (S.length : Int) - 1) (by omega) (by omega)]) ?_
    simp only [l03Is_eq, Option.bind_some]
    rw [dirtM]
    unfold impl_isFlash.has
    by_cases g : 0 ≤ x.f0 ∧ x.f0 ≤ (S.length : Int) - 1
    · simp only [decide_eq_true g, if_true]
      by_cases g2 : (x.f1.size : Int) > 96
      · rw [decide_eq_true g2, if_pos g2]
        exact Ev.step (f := fun _ => some false) (fun k => by rw [spec_FlashRight.j3, if_pos rfl]) (Ev.now _)
      · rw [decide_eq_false g2, if_neg g2]
        exact Ev.step (f := fun k => spec_FlashRight.l2 k (p.length : Int) 0 S L) (fun k => by rw [spec_FlashRight.j3, if_neg (by decide)]) h2
    · simp only [decide_eq_false g, Bool.false_eq_true, if_false]
      exact Ev.step (f := fun _ => some false) (fun k => by rw [spec_FlashRight.j3, if_pos rfl]) (Ev.now _)
theorem specSize (L : List Dty) (S : List ByteArray) (hS : S.length ≤ 40) (R : Bool) (hR : Ev (fun k => spec_FlashRight.l1 k 0 S L) R) (r : List ByteArray) : ∀ (p : List ByteArray), S = p ++ r → Ev (fun k => spec_FlashRight.l0 k (p.length : Int) S L) (!(r.any impl_isFlash.long) && R) := by
  induction r with
  | nil =>
    intro p h
    subst h
    refine Ev.step (fun k => by rw [spec_FlashRight.l0, if_neg (not_lt_end p)]) ?_
    simpa using hR
  | cons x r ih =>
    intro p h
    have hl : p.length + 1 + r.length ≤ 40 := by rw [h] at hS; simp at hS; omega
    have hlt : (p.length : Int) < (S.length : Int) := by rw [h]; exact lt_mid p x r
    have hx : rdOf ByteArray.empty S (p.length : Int) = x := by rw [h]; exact rdS_mid _ _ _
    have ih' := ih (p ++ [x]) (by rw [h]; simp)
    rw [lenS_snoc] at ih'
    refine Ev.step (fun k => by rw [spec_FlashRight.l0, if_pos hlt, if_pos (by omega), hx, next64 (by omega)]) ?_
    rw [List.any_cons]
    by_cases g : (x.size : Int) > 96
    · simp only [if_pos g]
      rw [show impl_isFlash.long x = true from decide_eq_true g, Bool.true_or, Bool.not_true, Bool.false_and]
      exact Ev.now _
    · simp only [if_neg g]
      rw [show impl_isFlash.long x = false from decide_eq_false g, Bool.false_or]
      exact ih'
theorem specFlash (S : List ByteArray) (D : List Dty) : Ev (fun k => spec_FlashRight.f k S D) (flashM S D) := by
  unfold spec_FlashRight.f flashM impl_isFlash.head
  by_cases h1 : (S.length : Int) < 1
  · simp only [if_pos h1]
    rw [decide_eq_false (show ¬ (1 ≤ (S.length : Int) ∧ (S.length : Int) ≤ 40) by omega), Bool.false_and, Bool.false_and]
    exact Ev.step (f := fun _ => some false) (fun k => by rw [spec_FlashRight.j0, if_pos rfl]) (Ev.now _)
  · simp only [if_neg h1]
    by_cases h2 : (S.length : Int) > 40
    · simp only [if_pos h2]
      rw [decide_eq_false (show ¬ (1 ≤ (S.length : Int) ∧ (S.length : Int) ≤ 40) by omega), Bool.false_and, Bool.false_and]
      exact Ev.step (f := fun _ => some false) (fun k => by rw [spec_FlashRight.j0, if_pos rfl]) (Ev.now _)
    · simp only [if_neg h2]
      rw [decide_eq_true (show 1 ≤ (S.length : Int) ∧ (S.length : Int) ≤ 40 by omega), Bool.true_and]
      by_cases h3 : (D.length : Int) > (S.length : Int)
      · rw [decide_eq_true h3, decide_eq_false (show ¬ (D.length : Int) ≤ (S.length : Int) by omega), Bool.false_and, Bool.false_and]
        exact Ev.step (f := fun _ => some false) (fun k => by rw [spec_FlashRight.j0, if_pos rfl]) (Ev.now _)
      · rw [decide_eq_false h3, decide_eq_true (show (D.length : Int) ≤ (S.length : Int) by omega), Bool.true_and]
        refine Ev.step (fun k => by rw [spec_FlashRight.j0, if_neg (by decide)]) ?_
        exact specSize D S (by omega) _ (specDirt S (by omega) D (by omega) D [] rfl) S [] rfl
/-- A right flash. -/
theorem flash_len {S : List ByteArray} {D : List Dty} (h : flashM S D = true) : (1 ≤ S.length ∧ S.length ≤ 40) ∧ D.length ≤ S.length := by
  unfold flashM impl_isFlash.head at h
  simp only [Bool.and_eq_true, decide_eq_true_eq] at h
  omega
theorem dirtM_at (n : Int) : ∀ (r p : List Dty), dirtM n p r = true → ∀ x ∈ r, 0 ≤ x.f0 ∧ x.f0 ≤ n - 1 := by
  intro r
  induction r with
  | nil => intro p _ x hx; cases hx
  | cons y r ih =>
    intro p h x hx
    rw [dirtM] at h
    by_cases g : impl_isFlash.has n y.f0 = true
    · rw [if_pos g] at h
      split at h
      · cases h
      · split at h
        · cases h
        · rcases List.mem_cons.1 hx with rfl | hx
          · unfold impl_isFlash.has at g; simpa using g
          · exact ih _ h x hx
    · rw [if_neg g] at h; cases h
theorem flash_at {S : List ByteArray} {D : List Dty} (h : flashM S D = true) : ∀ x ∈ D, 0 ≤ x.f0 ∧ x.f0 < (S.length : Int) := by
  unfold flashM at h
  rw [Bool.and_eq_true] at h
  intro x hx
  have := dirtM_at _ _ _ h.2 x hx
  omega
end Go.Proofs.Ytibnmnkembbgeaa.Pure
namespace Go.Proofs.Ytibnmnkembbgeaa.Pure
set_option linter.unusedVariables false
set_option linter.unusedSimpArgs false
open Go Go.RowKit Go.Proofs.Ytibnmnkembbgeaa.Q Go.Proofs.YtibnmnkembbgeaaW.PrintWords Go.Proofs.YtibnmnkembbgeaaW.PrintLast Go.Proofs.YtibnmnkembbgeaaW.PrintMore
abbrev FOut := List ByteArray × List Dty × ByteArray × Int
def illF (c : Int) : FOut := ([], [], ⟨#[]⟩, c)
theorem implClone (S : List ByteArray) (D : List Dty) (h1 : S.length ≤ 1000000) (h2 : D.length ≤ 1000000) : impl_cloneFlash.f S D = some (S, D) := by
  unfold impl_cloneFlash.f slices_Clone_string_string.f slices_Clone_S92.f
  rw [if_pos (by omega), Option.bind_some, if_pos (by omega), Option.bind_some]
theorem specCopy (S : List ByteArray) (D : List Dty) (h1 : S.length ≤ 10000000) (h2 : D.length ≤ 10000000) : spec_l03Copy.f S D = some (S, D) := by
  unfold spec_l03Copy.f
  simp only [Option.bind_some, List.length_nil, List.nil_append, if_pos (show 0 + S.length < 8796093022208 by omega), if_pos (show 0 + D.length < 5864062014805 by omega)]
def syncF (S : List ByteArray) (D : List Dty) : FOut := if flashM S D = true then (impl_Flash_synced S D, [], ⟨#[]⟩, 0) else illF 1
theorem synced_length : ∀ (D : List Dty) (S : List ByteArray), (impl_Flash_synced S D).length = S.length := by
  intro D
  induction D with
  | nil => intro S; rfl
  | cons x r ih => intro S; rw [impl_Flash_synced, ih, List.length_set]
theorem specSynced (S0 : List ByteArray) (N : Nat) (hN : N ≤ 1000000) (r : List Dty) : ∀ (p : List Dty) (S : List ByteArray), p.length + r.length = N → (∀ x ∈ r, 0 ≤ x.f0 ∧ x.f0 < (S.length : Int)) → Ev (fun k => spec_l03Sync.l0 k (p.length : Int) S0 (p ++ r) S) (impl_Flash_synced S r, ([] : List Dty)) := by
  induction r with
  | nil => intro p S h _; exact Ev.step (f := fun _ => some (S, ([] : List Dty))) (fun k => by rw [spec_l03Sync.l0, if_neg (not_lt_end p)]) (Ev.now _)
  | cons x r ih =>
    intro p S h hs
    simp only [List.length_cons] at h
    obtain ⟨x0, x1⟩ := hs x (by simp)
    refine Ev.step (fun k => by rw [spec_l03Sync.l0, if_pos (lt_mid p x r), if_pos (by omega), rdD_mid, if_pos x0, if_pos x1, next64 (by omega)]) ?_
    rw [impl_Flash_synced]
    have := ih (p ++ [x]) (S.set x.f0.toNat x.f1) (by simp; omega) (fun y hy => by rw [List.length_set]; exact hs y (by simp [hy]))
    rw [← snoc_app, lenS_snoc] at this
    exact this
theorem specFlashSync (S : List ByteArray) (D : List Dty) : Ev (fun k => spec_FlashSync.f k S D) (syncF S D) := by
  unfold spec_FlashSync.f syncF illF spec_l03Ill.f
  refine Ev.bind (specFlash S D) ?_
  by_cases g : flashM S D = true
  · obtain ⟨hs, hd⟩ := flash_len g
    simp only [if_pos g]
    refine Ev.bind (a := (impl_Flash_synced S D, ([] : List Dty))) ?_ (Ev.now _)
    unfold spec_l03Sync.f
    simp only [Option.bind_some, List.length_nil, List.nil_append, if_pos (show 0 + S.length < 8796093022208 by omega)]
    exact specSynced S D.length (by omega) D [] S (by simp) (flash_at g)
  · simp only [if_neg g, Option.bind_some]
    exact Ev.now _
def writeF (S : List ByteArray) (D : List Dty) (a : Int) (d : ByteArray) : FOut :=
  if (d.size : Int) > 8000 then illF 2 else if flashM S D = true ∧ ¬ (d.size : Int) > 96 then (if 0 ≤ a ∧ a ≤ (S.length : Int) - 1 then (S, impl_Flash_put S D a d, ⟨#[]⟩, 0) else illF 8) else illF 1
/-- The reference's put, from a place on. -/
def putGo (a : Int) (d : ByteArray) : List Dty → List Dty → List Dty
  | p, [] => p ++ [⟨a, d⟩]
  | p, x :: r => if x.f0 = a then p ++ ⟨x.f0, d⟩ :: r else putGo a d (p ++ [x]) r
theorem putGo_eq (S : List ByteArray) (a : Int) (d : ByteArray) (r : List Dty) : ∀ (p : List Dty), putGo a d p r = (if 0 ≤ idxFrom (impl_Flash_dirty.is a) r (p.length : Int) then (p ++ r).set (idxFrom (impl_Flash_dirty.is a) r (p.length : Int)).toNat ⟨(rd_T92 (p ++ r) (idxFrom (impl_Flash_dirty.is a) r (p.length : Int))).f0, d⟩ else (p ++ r) ++ [⟨a, d⟩]) := by
  induction r with
  | nil => intro p; simp [putGo, idxFrom]
  | cons x r ih =>
    intro p
    rw [putGo, idxFrom]
    by_cases h : x.f0 = a
    · rw [if_pos h, if_pos (show impl_Flash_dirty.is a x = true by simp [impl_Flash_dirty.is, h]), if_pos (show (0 : Int) ≤ (p.length : Int) by omega), rdD_mid, set_mid]
    · rw [if_neg (show ¬ impl_Flash_dirty.is a x = true by simp [impl_Flash_dirty.is, h]), if_neg h, ih (p ++ [x])]
      rw [lenS_snoc, show p ++ [x] ++ r = p ++ x :: r by simp, show ((p.length + 1 : Nat) : Int) = (p.length : Int) + 1 by omega]
theorem specPutF_l0 (S : List ByteArray) (a : Int) (d : ByteArray) (N : Nat) (hN : N ≤ 1000000) (r : List Dty) : ∀ (p : List Dty), p.length + r.length = N → Ev (fun k => spec_l03Put.l0 k a d (p.length : Int) S (p ++ r)) (S, putGo a d p r) := by
  induction r with
  | nil => intro p h; simp at h; exact Ev.step (f := fun _ => some (S, p ++ [⟨a, d⟩])) (fun k => by rw [spec_l03Put.l0, if_neg (not_lt_end p), List.append_nil, if_pos (by omega)]) (Ev.now _)
  | cons x r ih =>
    intro p h
    simp only [List.length_cons] at h
    refine Ev.step (fun k => by rw [spec_l03Put.l0, if_pos (lt_mid p x r), if_pos (by omega), rdD_mid, next64 (by omega), set_mid]) ?_
    rw [putGo]
    by_cases g : x.f0 = a
    · simp only [if_pos g]; exact Ev.now _
    · simp only [if_neg g]
      have := ih (p ++ [x]) (by simp; omega)
      rw [← snoc_app, lenS_snoc] at this
      exact this
theorem specFlashWrite (S : List ByteArray) (D : List Dty) (a : Int) (d : ByteArray) : Ev (fun k => spec_FlashWrite.f k S D a d) (writeF S D a d) := by
  unfold spec_FlashWrite.f writeF illF spec_l03Ill.f
  by_cases g0 : (d.size : Int) > 8000
  · simp only [if_pos g0, Option.bind_some]; exact Ev.now _
  · simp only [if_neg g0]
    refine Ev.bind (specFlash S D) ?_
    by_cases g : flashM S D = true
    · obtain ⟨hs, hd⟩ := flash_len g
      simp only [if_pos g]
      by_cases g1 : (d.size : Int) > 96
      · rw [if_neg (fun h => h.2 g1), decide_eq_true g1]
        exact Ev.step (f := fun _ => some ([], [], ⟨#[]⟩, 1)) (fun k => by rw [spec_FlashWrite.j0, if_pos rfl]; rfl) (Ev.now _)
      · rw [if_pos ⟨g, g1⟩, decide_eq_false g1]
        refine Ev.step (fun k => by rw [spec_FlashWrite.j0, if_neg (by decide), wrap64_id (n := (S.length : Int) - 1) (by omega) (by omega), l03Is_eq, Option.bind_some]) ?_
        by_cases g2 : 0 ≤ a ∧ a ≤ (S.length : Int) - 1
        · simp only [decide_eq_true g2, if_true, if_pos g2]
          refine Ev.bind (a := (S, impl_Flash_put S D a d)) ?_ (Ev.now _)
          unfold spec_l03Put.f
          rw [specCopy S D (by omega) (by omega)]
          simp only [Option.bind_some]
          have e := putGo_eq S a d D []
          simp only [List.length_nil, List.nil_append] at e
          unfold impl_Flash_put
          have := specPutF_l0 S a d D.length (by omega) D [] (by simp)
          rw [e] at this
          exact this
        · simp only [decide_eq_false g2, Bool.false_eq_true, if_false, if_neg g2]
          unfold spec_l03Ill.f
          exact Ev.now _
    · simp only [if_neg g, if_neg (show ¬ (flashM S D = true ∧ ¬ (d.size : Int) > 96) from fun h => g h.1)]
      exact Ev.step (f := fun _ => some ([], [], ⟨#[]⟩, 1)) (fun k => by rw [spec_FlashWrite.j0, if_pos rfl]; rfl) (Ev.now _)
end Go.Proofs.Ytibnmnkembbgeaa.Pure
namespace Go.Proofs.Ytibnmnkembbgeaa.Pure
set_option linter.unusedVariables false
set_option linter.unusedSimpArgs false
open Go Go.RowKit Go.Proofs.Ytibnmnkembbgeaa.Q Go.Proofs.YtibnmnkembbgeaaW.PrintWords Go.Proofs.YtibnmnkembbgeaaW.PrintLast Go.Proofs.YtibnmnkembbgeaaW.PrintMore
theorem flash_dirt {S : List ByteArray} {D : List Dty} (h : flashM S D = true) : dirtM S.length [] D = true := by
  unfold flashM at h; rw [Bool.and_eq_true] at h; exact h.2
theorem flash_sizes {S : List ByteArray} {D : List Dty} (h : flashM S D = true) : ∀ s ∈ S, s.size ≤ 96 := by
  unfold flashM impl_isFlash.head at h
  simp only [Bool.and_eq_true, Bool.not_eq_true', List.any_eq_false] at h
  intro s hs
  have := h.1.2.2 s hs
  unfold impl_isFlash.long at this
  simp only [decide_eq_true_eq] at this
  omega
end Go.Proofs.Ytibnmnkembbgeaa.Pure
namespace Go.Proofs.Ytibnmnkembbgeaa.Pure
set_option linter.unusedVariables false
set_option linter.unusedSimpArgs false
open Go Go.RowKit Go.Proofs.Ytibnmnkembbgeaa.Q Go.Proofs.YtibnmnkembbgeaaW.PrintWords Go.Proofs.YtibnmnkembbgeaaW.PrintLast Go.Proofs.YtibnmnkembbgeaaW.PrintMore
abbrev Act := S116
theorem rdA_mid (p : List Act) (a : Act) (r : List Act) : rd_T116 (p ++ a :: r) (p.length : Int) = a := by simp [rd_T116]
theorem eqAct_l0 (N : Nat) (hN : N < 9223372036854775807) (r : List Act) : ∀ p : List Act, p.length + r.length = N → Ev (fun k => laws_eqActS.l0 k (p ++ r) (p ++ r) (p.length : Int)) true := by
  induction r with
  | nil => intro p h; exact Ev.step (fun k => by rw [laws_eqActS.l0, if_neg (not_lt_end p)]) (Ev.now _)
  | cons a r ih =>
    intro p h
    simp only [List.length_cons] at h
    refine Ev.step (fun k => by rw [laws_eqActS.l0, if_pos (lt_mid p a r), if_pos (by omega), if_pos (lt_mid p a r), rdA_mid, next64 (by omega)]) ?_
    refine Ev.bind1 (show laws_eqAct.f a.f0 a.f1 a.f2 a.f0 a.f1 a.f2 = some true by unfold laws_eqAct.f; simp) ?_
    simp only [if_true]
    have := ih (p ++ [a]) (by simp; omega)
    rw [← snoc_app, lenS_snoc] at this
    exact this
theorem eqActs (l : List Act) (h : l.length < 9223372036854775807) : Ev (fun k => laws_eqActS.f k l l) true := by
  unfold laws_eqActS.f
  simp only [if_true]
  exact eqAct_l0 l.length h l [] (by simp)
def markA (m : Int) : Act := ⟨Int.tmod m 3 == 0, m + 1, markT (m + 2)⟩
def marksA : Int → Nat → List Act
  | _, 0 => []
  | m, n + 1 => markA m :: marksA (m + 3) n
theorem markAct_l0 (N : Nat) (hN : N < 1000000000000000000) (r : List Act) : ∀ (p : List Act) (m : Int), p.length + r.length = N → 0 ≤ m → m + 3 * r.length ≤ 4000000000000000000 →
    Ev (fun k => laws_markActS.l0 k (p ++ r) m (p.length : Int)) (m + 3 * r.length, p ++ marksA m r.length) := by
  induction r with
  | nil => intro p m h h0 h1; exact Ev.step (fun k => by rw [laws_markActS.l0, if_neg (not_lt_end p)]) (by simpa [marksA] using Ev.now _)
  | cons a r ih =>
    intro p m h h0 h1
    simp only [List.length_cons] at h h1
    refine Ev.step (fun k => by rw [laws_markActS.l0, if_pos (lt_mid p a r), if_pos (by omega), next64 (by omega), wrap64_id (n := m + 1) (by omega) (by omega), wrap64_id (n := m + 1 + 1) (by omega) (by omega), wrap64_id (n := m + 1 + 1 + 1) (by omega) (by omega), rdA_mid, set_mid]) ?_
    simp only [Option.bind_some, rdA_mid, set_mid]
    refine Ev.bind (markText (m + 1 + 1) (by omega)) ?_
    have := ih (p ++ [markA m]) (m + 3) (by simp; omega) (by omega) (by omega)
    rw [← snoc_app, lenS_snoc, List.append_assoc] at this
    rw [List.length_cons, marksA, show m + 3 * ((r.length + 1 : Nat) : Int) = m + 3 + 3 * (r.length : Int) by omega]
    rw [show m + 1 + 1 + 1 = m + 3 by omega, show m + 1 + 1 = m + 2 by omega]
    exact this
theorem markActs (l : List Act) (m : Int) (h : l.length < 1000000000000000000) (h0 : 0 ≤ m) (h1 : m + 3 * l.length ≤ 4000000000000000000) : Ev (fun k => laws_markActS.f k l m) (m + 3 * l.length, marksA m l.length) := by
  unfold laws_markActS.f
  exact markAct_l0 l.length h l [] m (by simp) h0 h1
end Go.Proofs.Ytibnmnkembbgeaa.Pure
namespace Go.Proofs.Ytibnmnkembbgeaa.Pure
set_option linter.unusedVariables false
set_option linter.unusedSimpArgs false
open Go Go.RowKit Go.Proofs.Ytibnmnkembbgeaa.Q Go.Proofs.YtibnmnkembbgeaaW.PrintWords Go.Proofs.YtibnmnkembbgeaaW.PrintLast Go.Proofs.YtibnmnkembbgeaaW.PrintMore
/-- What doing the acts answers. -/
def doM : List Act → List ByteArray → List Dty → FOut
  | [], S, D => (S, D, ⟨#[]⟩, 0)
  | a :: r, S, D => if a.f0 = true then doM r (impl_Flash_synced S D) [] else if (a.f2.size : Int) > 8000 then illF 2 else if (a.f2.size : Int) > 96 then illF 1 else if 0 ≤ a.f1 ∧ a.f1 ≤ (S.length : Int) - 1 then doM r S (impl_Flash_put S D a.f1 a.f2) else illF 8
theorem pigeon : ∀ (n : Nat) (l : List Nat), l.Nodup → (∀ x ∈ l, x < n) → l.length ≤ n := by
  intro n
  induction n with
  | zero =>
    intro l _ h
    cases l with
    | nil => exact Nat.le_refl _
    | cons a l => exact absurd (h a (by simp)) (Nat.not_lt_zero _)
  | succ n ih =>
    intro l hn h
    by_cases g : n ∈ l
    · have h1 := List.length_erase_of_mem g
      have h2 := ih (l.erase n) (hn.erase n) (fun x hx => by
        have := (hn.mem_erase_iff).1 hx
        have := h x this.2
        omega)
      omega
    · have := ih l hn (fun x hx => by
        have h1 := h x hx
        rcases Nat.lt_or_ge x n with h2 | h2
        · exact h2
        · exact absurd (show n ∈ l by rw [show n = x by omega]; exact hx) g)
      omega
/-- The same, said of each write and of each pair. -/
theorem dirtM_iff (n : Int) : ∀ (r p : List Dty), dirtM n p r = true ↔ (∀ x ∈ r, (0 ≤ x.f0 ∧ x.f0 ≤ n - 1) ∧ x.f1.size ≤ 96) ∧ (∀ x ∈ p, ∀ y ∈ r, x.f0 ≠ y.f0) ∧ (r.map (fun x => x.f0)).Nodup := by
  intro r
  induction r with
  | nil => intro p; simp [dirtM]
  | cons z r ih =>
    intro p
    rw [dirtM]
    by_cases g : impl_isFlash.has n z.f0 = true
    · rw [if_pos g]
      have g' : 0 ≤ z.f0 ∧ z.f0 ≤ n - 1 := by simpa [impl_isFlash.has] using g
      by_cases g2 : (z.f1.size : Int) > 96
      · rw [if_pos g2]
        constructor
        · intro h; cases h
        · intro h; have := (h.1 z (by simp)).2; omega
      · rw [if_neg g2]
        by_cases g3 : p.any (impl_Flash_dirty.is z.f0) = true
        · rw [if_pos g3]
          constructor
          · intro h; cases h
          · intro h
            obtain ⟨x, hx, hy⟩ := List.any_eq_true.1 g3
            exact absurd (by simpa [impl_Flash_dirty.is] using hy) (h.2.1 x hx z (by simp))
        · rw [if_neg g3, ih]
          have g3' : ∀ x ∈ p, x.f0 ≠ z.f0 := fun x hx e => g3 (List.any_eq_true.2 ⟨x, hx, by simp [impl_Flash_dirty.is, e]⟩)
          constructor
          · rintro ⟨h1, h2, h3⟩
            refine ⟨fun x hx => ?_, fun x hx y hy => ?_, ?_⟩
            · rcases List.mem_cons.1 hx with rfl | hx
              · exact ⟨g', by omega⟩
              · exact h1 x hx
            · rcases List.mem_cons.1 hy with rfl | hy
              · exact g3' x hx
              · exact h2 x (by simp [hx]) y hy
            · rw [List.map_cons, List.nodup_cons]
              refine ⟨fun hm => ?_, h3⟩
              obtain ⟨y, hy, e⟩ := List.mem_map.1 hm
              exact h2 z (by simp) y hy e.symm
          · rintro ⟨h1, h2, h3⟩
            rw [List.map_cons, List.nodup_cons] at h3
            refine ⟨fun x hx => h1 x (by simp [hx]), fun x hx y hy => ?_, h3.2⟩
            rcases List.mem_append.1 hx with hx | hx
            · exact h2 x hx y (by simp [hy])
            · rw [List.mem_singleton] at hx
              rw [hx]
              intro e
              exact h3.1 (List.mem_map.2 ⟨y, hy, e.symm⟩)
    · rw [if_neg g]
      constructor
      · intro h; cases h
      · intro h; exact absurd (by simpa [impl_isFlash.has] using (h.1 z (by simp)).1) g
theorem flashM_iff (S : List ByteArray) (D : List Dty) : flashM S D = true ↔ ((1 ≤ S.length ∧ S.length ≤ 40) ∧ ∀ s ∈ S, s.size ≤ 96) ∧ (∀ x ∈ D, (0 ≤ x.f0 ∧ x.f0 ≤ (S.length : Int) - 1) ∧ x.f1.size ≤ 96) ∧ (D.map (fun x => x.f0)).Nodup := by
  constructor
  · intro h
    have hd := (dirtM_iff S.length D []).1 (flash_dirt h)
    exact ⟨⟨(flash_len h).1, flash_sizes h⟩, hd.1, hd.2.2⟩
  · rintro ⟨⟨h1, h2⟩, h3, h4⟩
    have hp := pigeon S.length (D.map (fun x => x.f0.toNat)) (by
      unfold List.Nodup at h4 ⊢
      rw [List.pairwise_map] at h4 ⊢
      exact h4.imp_of_mem (fun {a b} ha hb hab e => hab (by have := (h3 a ha).1; have := (h3 b hb).1; omega))) (fun x hx => by
      obtain ⟨y, hy, rfl⟩ := List.mem_map.1 hx
      have := (h3 y hy).1; omega)
    rw [List.length_map] at hp
    unfold flashM impl_isFlash.head
    rw [(dirtM_iff S.length D []).2 ⟨h3, fun x hx => (by cases hx), h4⟩]
    have hl : S.any impl_isFlash.long = false := by
      rw [List.any_eq_false]
      intro s hs
      have := h2 s hs
      simp [impl_isFlash.long]; omega
    simp [hl]; omega
theorem synced_mem : ∀ (D : List Dty) (S : List ByteArray), (∀ x ∈ D, x.f1.size ≤ 96) → (∀ s ∈ S, s.size ≤ 96) → ∀ s ∈ impl_Flash_synced S D, s.size ≤ 96 := by
  intro D
  induction D with
  | nil => intro S _ h; exact h
  | cons x r ih =>
    intro S h1 h2
    rw [impl_Flash_synced]
    refine ih _ (fun y hy => h1 y (by simp [hy])) (fun s hs => ?_)
    rcases List.mem_or_eq_of_mem_set hs with hs | hs
    · exact h2 s hs
    · rw [hs]; exact h1 x (by simp)
theorem synced_right {S : List ByteArray} {D : List Dty} (h : flashM S D = true) : flashM (impl_Flash_synced S D) [] = true := by
  rw [flashM_iff] at h ⊢
  rw [synced_length]
  exact ⟨⟨h.1.1, synced_mem D S (fun x hx => (h.2.1 x hx).2) h.1.2⟩, fun x hx => (by cases hx), List.nodup_nil⟩
theorem putGo_mem (a : Int) (d : ByteArray) : ∀ (r p : List Dty), ∀ x ∈ putGo a d p r, x ∈ p ∨ x ∈ r ∨ x = ⟨a, d⟩ := by
  intro r
  induction r with
  | nil => intro p x hx; rw [putGo] at hx; rcases List.mem_append.1 hx with h | h; exact Or.inl h; exact Or.inr (Or.inr (List.mem_singleton.1 h))
  | cons z r ih =>
    intro p x hx
    rw [putGo] at hx
    split at hx
    · rename_i e
      rcases List.mem_append.1 hx with h | h
      · exact Or.inl h
      · rcases List.mem_cons.1 h with h | h
        · exact Or.inr (Or.inr (by rw [h, e]))
        · exact Or.inr (Or.inl (by simp [h]))
    · rcases ih _ x hx with h | h | h
      · rcases List.mem_append.1 h with h | h
        · exact Or.inl h
        · exact Or.inr (Or.inl (by rw [List.mem_singleton.1 h]; simp))
      · exact Or.inr (Or.inl (by simp [h]))
      · exact Or.inr (Or.inr h)
theorem putGo_nodup (a : Int) (d : ByteArray) : ∀ (r p : List Dty), (∀ x ∈ p, x.f0 ≠ a) → ((p ++ r).map (fun x => x.f0)).Nodup → ((putGo a d p r).map (fun x => x.f0)).Nodup := by
  intro r
  induction r with
  | nil =>
    intro p hp hn
    rw [putGo, List.map_append, List.nodup_append]
    rw [List.append_nil] at hn
    refine ⟨hn, by simp, fun x hx y hy e => ?_⟩
    obtain ⟨z, hz, rfl⟩ := List.mem_map.1 hx
    rw [List.map_cons, List.map_nil, List.mem_singleton] at hy
    exact hp z hz (e.trans hy)
  | cons z r ih =>
    intro p hp hn
    rw [putGo]
    split
    · rw [List.map_append, List.map_cons] at hn ⊢
      exact hn
    · rename_i g
      refine ih (p ++ [z]) (fun x hx => ?_) (by simpa using hn)
      rcases List.mem_append.1 hx with hx | hx
      · exact hp x hx
      · rw [List.mem_singleton.1 hx]; exact g
theorem put_eq (S : List ByteArray) (D : List Dty) (a : Int) (d : ByteArray) : impl_Flash_put S D a d = putGo a d [] D := by
  have e := putGo_eq S a d D []
  simp only [List.length_nil, List.nil_append] at e
  unfold impl_Flash_put
  exact e.symm
theorem put_right {S : List ByteArray} {D : List Dty} {a : Int} {d : ByteArray} (h : flashM S D = true) (ha : 0 ≤ a ∧ a ≤ (S.length : Int) - 1) (hd : d.size ≤ 96) : flashM S (impl_Flash_put S D a d) = true := by
  rw [flashM_iff] at h ⊢
  rw [put_eq]
  refine ⟨h.1, fun x hx => ?_, putGo_nodup a d D [] (fun x hx => by cases hx) h.2.2⟩
  rcases putGo_mem a d D [] x hx with e | e | e
  · cases e
  · exact h.2.1 x e
  · rw [e]; exact ⟨ha, hd⟩
theorem implGo : ∀ (L : List Act) (S : List ByteArray) (D : List Dty), flashM S D = true → impl_ActsDo.go L S D = some (doM L S D) := by
  intro L
  induction L with
  | nil => intro S D _; rfl
  | cons a r ih =>
    intro S D h
    obtain ⟨hs, hd⟩ := flash_len h
    have hi := (flashM_iff S D).1 h
    rw [impl_ActsDo.go, doM]
    have hok : impl_ActsDo.okD S D = true := by
      unfold impl_ActsDo.okD
      simp only [Bool.and_eq_true, decide_eq_true_eq, List.all_eq_true]
      exact ⟨by omega, fun x hx => by have := (hi.2.1 x hx).1; omega⟩
    by_cases g : a.f0 = true
    · rw [if_pos g, if_pos g, if_pos hok, ih _ _ (synced_right h)]
    · rw [if_neg g, if_neg g]
      by_cases g1 : (a.f2.size : Int) > 8000
      · rw [if_pos g1, if_pos g1]; rfl
      · rw [if_neg g1, if_neg g1]
        by_cases g2 : (a.f2.size : Int) > 96
        · rw [if_pos g2, if_pos g2]; rfl
        · rw [if_neg g2, if_neg g2, if_pos (by omega)]
          by_cases g3 : 0 ≤ a.f1 ∧ a.f1 ≤ (S.length : Int) - 1
          · rw [if_pos g3, if_pos g3, if_pos (by omega), ih _ _ (put_right h g3 (by omega))]
          · rw [if_neg g3, if_neg g3]; rfl
def actsF (S : List ByteArray) (D : List Dty) (L : List Act) : FOut := if (L.length : Int) > 400 then illF 2 else if flashM S D = true then (if L.any impl_ActsDo.bad = true then illF 1 else doM L S D) else illF 1
theorem implActsDo (S : List ByteArray) (D : List Dty) (L : List Act) (h1 : S.length ≤ 9223372036854775807) (h2 : D.length ≤ 9223372036854775807) : impl_ActsDo.f S D L = some (actsF S D L) := by
  unfold impl_ActsDo.f actsF
  by_cases g0 : (L.length : Int) > 400
  · rw [if_pos g0, if_pos g0]; rfl
  · rw [if_neg g0, if_neg g0, implFlash S D h1 h2, Option.bind_some]
    by_cases g : flashM S D = true
    · obtain ⟨hs, hd⟩ := flash_len g
      rw [if_pos g, if_pos g]
      by_cases g1 : L.any impl_ActsDo.bad = true
      · rw [if_pos g1, if_pos g1]; rfl
      · rw [if_neg g1, if_neg g1, implClone S D (by omega) (by omega), Option.bind_some, implGo L S D g]
    · rw [if_neg g, if_neg g]; rfl
theorem specDo_err (L : List Act) (i : Int) (c : Int) (hc : c ≠ 0) : Ev (fun k => spec_l04Do.l0 k L i [] [] ⟨#[]⟩ c) (illF c) := by
  have hj : ∀ b, b = false → Ev (fun k => spec_l04Do.j1 k L i b [] [] ⟨#[]⟩ c) (illF c) := fun b hb => by
    subst hb
    exact Ev.step (f := fun _ => some (illF c)) (fun k => by rw [spec_l04Do.j1, if_neg (by decide), if_neg hc]; rfl) (Ev.now _)
  by_cases g : i < (L.length : Int)
  · exact Ev.step (fun k => by rw [spec_l04Do.l0, if_pos g]) (hj _ (by simp [hc]))
  · exact Ev.step (fun k => by rw [spec_l04Do.l0, if_neg g]) (hj _ rfl)
theorem specDo_l0 (N : Nat) (hN : N ≤ 1000000) (r : List Act) : ∀ (p : List Act) (S : List ByteArray) (D : List Dty), p.length + r.length = N → flashM S D = true → Ev (fun k => spec_l04Do.l0 k (p ++ r) (p.length : Int) S D ⟨#[]⟩ 0) (doM r S D) := by
  induction r with
  | nil =>
    intro p S D h hf
    exact Ev.step (fun k => by rw [spec_l04Do.l0, if_neg (not_lt_end p)]) (Ev.step (f := fun _ => some (S, D, ⟨#[]⟩, 0)) (fun k => by rw [spec_l04Do.j1, if_neg (by decide), if_pos rfl]) (Ev.now _))
  | cons a r ih =>
    intro p S D h hf
    obtain ⟨hs, hd⟩ := flash_len hf
    simp only [List.length_cons] at h
    have hrec : ∀ S' D', flashM S' D' = true → Ev (fun k => spec_l04Do.l0 k (p ++ a :: r) ((p.length : Int) + 1) S' D' ⟨#[]⟩ 0) (doM r S' D') := fun S' D' hf' => by
      have := ih (p ++ [a]) S' D' (by simp; omega) hf'
      rw [← snoc_app, lenS_snoc] at this
      exact this
    refine Ev.step (fun k => by rw [spec_l04Do.l0, if_pos (lt_mid p a r)]) (Ev.step (fun k => by rw [spec_l04Do.j1, if_pos (by rfl), if_pos (by omega), if_pos (lt_mid p a r), rdA_mid, next64 (by omega)]) ?_)
    rw [doM]
    by_cases g : a.f0 = true
    · simp only [if_pos g]
      refine Ev.bind (specFlashSync S D) ?_
      unfold syncF
      simp only [if_pos hf]
      exact hrec _ _ (synced_right hf)
    · simp only [if_neg g]
      refine Ev.bind (specFlashWrite S D a.f1 a.f2) ?_
      unfold writeF
      by_cases g1 : (a.f2.size : Int) > 8000
      · simp only [if_pos g1]
        exact specDo_err _ _ 2 (by decide)
      · simp only [if_neg g1]
        by_cases g2 : (a.f2.size : Int) > 96
        · rw [if_neg (show ¬ (flashM S D = true ∧ ¬ (a.f2.size : Int) > 96) from fun x => x.2 g2), if_pos g2]
          exact specDo_err _ _ 1 (by decide)
        · rw [if_pos (show flashM S D = true ∧ ¬ (a.f2.size : Int) > 96 from ⟨hf, g2⟩), if_neg g2]
          by_cases g3 : 0 ≤ a.f1 ∧ a.f1 ≤ (S.length : Int) - 1
          · rw [if_pos g3, if_pos g3]
            exact hrec _ _ (put_right hf g3 (by omega))
          · rw [if_neg g3, if_neg g3]
            exact specDo_err _ _ 8 (by decide)
theorem specActs_l0 (S : List ByteArray) (D : List Dty) (L : List Act) (h0 : L.length ≤ 400) (hf : flashM S D = true) (r : List Act) : ∀ (p : List Act), L = p ++ r → Ev (fun k => spec_ActsDo.l0 k L (p.length : Int) S D) (if r.any impl_ActsDo.bad = true then illF 1 else doM L S D) := by
  induction r with
  | nil =>
    intro p h
    obtain ⟨hs, hd⟩ := flash_len hf
    rw [List.append_nil] at h
    subst h
    refine Ev.step (fun k => by rw [spec_ActsDo.l0, if_neg (by omega)]) ?_
    refine Ev.bind ?_ (Ev.now _)
    unfold spec_l04Do.f
    rw [specCopy S D (by omega) (by omega)]
    exact specDo_l0 L.length (by omega) L [] S D (by simp) hf
  | cons a r ih =>
    intro p h
    subst h
    simp only [List.length_append, List.length_cons] at h0
    have hrec := ih (p ++ [a]) (by simp)
    rw [lenS_snoc] at hrec
    refine Ev.step (fun k => by rw [spec_ActsDo.l0, if_pos (lt_mid p a r), if_pos (by omega), rdA_mid, next64 (by omega)]) ?_
    rw [List.any_cons]
    by_cases g : a.f0 = true
    · simp only [if_pos g]
      by_cases g1 : a.f1 = 0
      · simp only [if_pos g1]
        by_cases g2 : a.f2.toList = ([] : List UInt8)
        · simp only [if_pos g2]
          rw [show impl_ActsDo.bad a = false by simp [impl_ActsDo.bad, g1, g2], Bool.false_or]
          exact hrec
        · simp only [if_neg g2]
          rw [show impl_ActsDo.bad a = true by simp [impl_ActsDo.bad, g, g2]]
          exact Ev.now _
      · simp only [if_neg g1]
        rw [show impl_ActsDo.bad a = true by simp [impl_ActsDo.bad, g, g1]]
        exact Ev.now _
    · simp only [if_neg g]
      rw [show impl_ActsDo.bad a = false by simp [impl_ActsDo.bad, g], Bool.false_or]
      exact hrec
theorem specActsDo (S : List ByteArray) (D : List Dty) (L : List Act) : Ev (fun k => spec_ActsDo.f k S D L) (actsF S D L) := by
  unfold spec_ActsDo.f actsF
  by_cases g0 : (L.length : Int) > 400
  · simp only [if_pos g0]; exact Ev.now _
  · simp only [if_neg g0]
    refine Ev.bind (specFlash S D) ?_
    by_cases g : flashM S D = true
    · simp only [if_pos g]
      exact specActs_l0 S D L (by omega) g L [] rfl
    · simp only [if_neg g]; exact Ev.now _
theorem doM_len : ∀ (L : List Act) (S : List ByteArray) (D : List Dty), flashM S D = true → (doM L S D).1.length ≤ 40 ∧ (doM L S D).2.1.length ≤ 40 := by
  intro L
  induction L with
  | nil => intro S D h; obtain ⟨hs, hd⟩ := flash_len h; exact ⟨hs.2, show D.length ≤ 40 by omega⟩
  | cons a r ih =>
    intro S D h
    rw [doM]
    split
    · exact ih _ _ (synced_right h)
    · split
      · exact ⟨Nat.zero_le _, Nat.zero_le _⟩
      · split
        · exact ⟨Nat.zero_le _, Nat.zero_le _⟩
        · split
          · rename_i g2 g3
            exact ih _ _ (put_right h g3 (by omega))
          · exact ⟨Nat.zero_le _, Nat.zero_le _⟩
theorem actsF_len (S : List ByteArray) (D : List Dty) (L : List Act) : (actsF S D L).1.length ≤ 40 ∧ (actsF S D L).2.1.length ≤ 40 := by
  unfold actsF
  split
  · exact ⟨Nat.zero_le _, Nat.zero_le _⟩
  · split
    · split
      · exact ⟨Nat.zero_le _, Nat.zero_le _⟩
      · rename_i g _
        exact doM_len L S D g
    · exact ⟨Nat.zero_le _, Nat.zero_le _⟩
end Go.Proofs.Ytibnmnkembbgeaa.Pure
namespace Go.Proofs.Ytibnmnkembbgeaa.Pure
set_option linter.unusedVariables false
set_option linter.unusedSimpArgs false
open Go Go.RowKit Go.Proofs.Ytibnmnkembbgeaa.Q Go.Proofs.YtibnmnkembbgeaaW.PrintWords Go.Proofs.YtibnmnkembbgeaaW.PrintLast Go.Proofs.YtibnmnkembbgeaaW.PrintMore
def marksT : Int → Nat → List ByteArray
  | _, 0 => []
  | m, n + 1 => markT m :: marksT (m + 1) n
theorem markStr_l0 (N : Nat) (hN : N < 1000000000000000000) (r : List ByteArray) : ∀ (p : List ByteArray) (m : Int), p.length + r.length = N → 0 ≤ m → m + r.length ≤ 4000000000000000000 →
    Ev (fun k => laws_markStringS.l0 k (p ++ r) m (p.length : Int)) (m + r.length, p ++ marksT m r.length) := by
  induction r with
  | nil => intro p m h h0 h1; exact Ev.step (fun k => by rw [laws_markStringS.l0, if_neg (not_lt_end p)]) (by simpa [marksT] using Ev.now _)
  | cons a r ih =>
    intro p m h h0 h1
    simp only [List.length_cons] at h h1
    refine Ev.step (fun k => by rw [laws_markStringS.l0, if_pos (lt_mid p a r), next64 (by omega), wrap64_id (n := m + 1) (by omega) (by omega)]) ?_
    refine Ev.bind (markText m (by omega)) ?_
    simp only [if_pos (show (0 : Int) ≤ (p.length : Int) by omega)]
    have := ih (p ++ [markT m]) (m + 1) (by simp; omega) (by omega) (by omega)
    rw [← snoc_app, lenS_snoc, List.append_assoc] at this
    rw [List.length_cons, marksT, show m + ((r.length + 1 : Nat) : Int) = m + 1 + (r.length : Int) by omega]
    simp only [set_mid]
    exact this
theorem markStr (l : List ByteArray) (m : Int) (h : l.length < 1000000000000000000) (h0 : 0 ≤ m) (h1 : m + l.length ≤ 4000000000000000000) : Ev (fun k => laws_markStringS.f k l m) (m + l.length, marksT m l.length) := by
  unfold laws_markStringS.f
  have := markStr_l0 l.length h l [] m (by simp) h0 h1
  exact this
theorem heldStr_l0 (N : Nat) (hN : N < 1000000000000000000) (n : Nat) : ∀ (p : List ByteArray) (m : Int), p.length + n = N → 0 ≤ m → m + n ≤ 4000000000000000000 →
    Ev (fun k => laws_heldStringS.l0 k (p ++ marksT m n) m (p.length : Int)) (m + n) := by
  induction n with
  | zero => intro p m h h0 h1; rw [marksT]; exact Ev.step (fun k => by rw [laws_heldStringS.l0, if_neg (not_lt_end p)]) (by simpa using Ev.now _)
  | succ n ih =>
    intro p m h h0 h1
    rw [marksT]
    refine Ev.step (fun k => by rw [laws_heldStringS.l0, if_pos (lt_mid p _ _), if_pos (by omega), rdS_mid, next64 (by omega), wrap64_id (n := m + 1) (by omega) (by omega)]) ?_
    refine Ev.bind (markText m (by omega)) ?_
    simp only [if_true]
    have := ih (p ++ [markT m]) (m + 1) (by simp; omega) (by omega) (by omega)
    rw [← snoc_app, lenS_snoc] at this
    rw [show m + ((n + 1 : Nat) : Int) = m + 1 + (n : Int) by omega]
    exact this
theorem heldStr (n : Nat) (m : Int) (h : n < 1000000000000000000) (h0 : 0 ≤ m) (h1 : m + n ≤ 4000000000000000000) : Ev (fun k => laws_heldStringS.f k (marksT m n) m) (m + n) := by
  unfold laws_heldStringS.f
  exact heldStr_l0 n h n [] m (by simp) h0 h1
end Go.Proofs.Ytibnmnkembbgeaa.Pure
namespace Go.Proofs.Ytibnmnkembbgeaa.Pure
set_option linter.unusedVariables false
set_option linter.unusedSimpArgs false
open Go Go.RowKit Go.Proofs.Ytibnmnkembbgeaa.Q Go.Proofs.YtibnmnkembbgeaaW.PrintWords Go.Proofs.YtibnmnkembbgeaaW.PrintLast Go.Proofs.YtibnmnkembbgeaaW.PrintMore
theorem toStr_l0 (N : Nat) (hN : N < 9223372036854775807) (r : List ByteArray) : ∀ p : List ByteArray, p.length + r.length = N →
    Ev (fun k => laws_toStringS.l0 k (p ++ r) (p ++ List.replicate r.length (⟨#[]⟩ : ByteArray)) (p.length : Int)) (p ++ r) := by
  induction r with
  | nil => intro p h; exact Ev.step (fun k => by rw [laws_toStringS.l0, if_neg (not_lt_end p)]) (by simpa using Ev.now _)
  | cons a r ih =>
    intro p h
    simp only [List.length_cons] at h
    refine Ev.step (fun k => by rw [laws_toStringS.l0, if_pos (lt_mid p a r), if_pos (by omega), List.length_cons, List.replicate_succ, if_pos (lt_mid p _ _), rdS_mid, set_mid, next64 (by omega)]) ?_
    have := ih (p ++ [a]) (by simp; omega)
    rw [← snoc_app, lenS_snoc, List.append_assoc] at this
    exact this
theorem toStr (l : List ByteArray) (h : l.length ≤ 17592186044416) : Ev (fun k => laws_toStringS.f k l) l := by
  unfold laws_toStringS.f
  simp only [if_pos (show (0 : Int) ≤ (l.length : Int) by omega), Int.toNat_natCast, if_pos h]
  exact toStr_l0 l.length (by omega) l [] (by simp)
theorem szStr_l0 (N : Nat) (hN : N ≤ 1048576) (r : List ByteArray) : ∀ (p : List ByteArray) (x : Int), p.length + r.length = N → 0 ≤ x → x ≤ 1048576 → (∀ s ∈ r, s.size ≤ 9223372036854775807) →
    ∃ v, Ev (fun k => laws_szStringS.l0 k (p ++ r) x (p.length : Int)) v ∧ -1 ≤ v ∧ v ≤ 1048576 := by
  induction r with
  | nil => intro p x h h0 h1 _; exact ⟨x, Ev.step (fun k => by rw [laws_szStringS.l0, if_neg (not_lt_end p)]) (Ev.now _), by omega, by omega⟩
  | cons a r ih =>
    intro p x h h0 h1 hs
    simp only [List.length_cons] at h
    have ha := hs a (by simp)
    by_cases g : x - (a.size : Int) < 0
    · refine ⟨-1, Ev.step (fun k => by rw [laws_szStringS.l0, if_pos (lt_mid p a r), if_pos (by omega), rdS_mid, wrap64_id (n := x - (a.size : Int)) (by omega) (by omega), if_pos g]) (Ev.now _), by omega, by omega⟩
    · obtain ⟨v, e, b0, b1⟩ := ih (p ++ [a]) (x - (a.size : Int)) (by simp; omega) (by omega) (by omega) (fun s h => hs s (by simp [h]))
      rw [← snoc_app, lenS_snoc] at e
      exact ⟨v, Ev.step (fun k => by rw [laws_szStringS.l0, if_pos (lt_mid p a r), if_pos (by omega), rdS_mid, wrap64_id (n := x - (a.size : Int)) (by omega) (by omega), if_neg g, next64 (by omega)]) e, b0, b1⟩
theorem szStr2 (l : List ByteArray) (hl : l.length ≤ 9223372036854775807) (hs : ∀ s ∈ l, s.size ≤ 9223372036854775807) : ∃ v, Ev (fun k => laws_szStringS.f k l 1048576) v ∧ (¬ v < 0 → l.length ≤ 1048576) ∧ -1 ≤ v ∧ v ≤ 1048576 := by
  unfold laws_szStringS.f
  rw [wrap64_id (n := 1048576 - (l.length : Int)) (by omega) (by omega)]
  by_cases g : 1048576 - (l.length : Int) < 0
  · exact ⟨-1, by simp only [if_pos g]; exact Ev.now _, by omega, by omega, by omega⟩
  · obtain ⟨v, e, b0, b1⟩ := szStr_l0 l.length (by omega) l [] (1048576 - (l.length : Int)) (by simp) (by omega) (by omega) hs
    exact ⟨v, by simp only [if_neg g]; exact e, by omega, b0, b1⟩
end Go.Proofs.Ytibnmnkembbgeaa.Pure
namespace Go.Proofs.Ytibnmnkembbgeaa.Pure
set_option linter.unusedVariables false
set_option linter.unusedSimpArgs false
open Go Go.RowKit Go.Proofs.Ytibnmnkembbgeaa.Q Go.Proofs.YtibnmnkembbgeaaW.PrintWords Go.Proofs.YtibnmnkembbgeaaW.PrintLast Go.Proofs.YtibnmnkembbgeaaW.PrintMore
theorem toFl (S : List ByteArray) (D : List LDty) (h1 : S.length ≤ 1048576) (h2 : D.length ≤ 1048576) : Ev (fun k => laws_toFlash.f k S D) (S, D.map dtyOf) := by
  unfold laws_toFlash.f
  exact Ev.bind (toStr S (by omega)) (Ev.bind (toDt D (by omega)) (Ev.now _))
theorem eqFl (S : List ByteArray) (D : List Dty) (h1 : S.length < 9223372036854775807) (h2 : D.length < 9223372036854775807) : Ev (fun k => laws_eqFlash.f k S D S D) true := by
  unfold laws_eqFlash.f
  refine Ev.bind (eqStr S h1) ?_
  simp only [if_true]
  exact Ev.bind (eqDt D h2) (by simp only [if_true]; exact Ev.now _)
theorem markFl (S : List ByteArray) (D : List Dty) (m : Int) (h1 : S.length ≤ 10000000) (h2 : D.length ≤ 10000000) (h0 : 0 ≤ m) (hm : m ≤ 1000000000) : Ev (fun k => laws_markFlash.f k S D m) (m + S.length + 2 * D.length, marksT m S.length, marksDt (m + S.length) D.length) := by
  unfold laws_markFlash.f
  exact Ev.bind (markStr S m (by omega) h0 (by omega)) (Ev.bind (markDty D (m + S.length) (by omega) (by omega) (by omega)) (Ev.now _))
theorem heldFl (n d : Nat) (m : Int) (h1 : n ≤ 10000000) (h2 : d ≤ 10000000) (h0 : 0 ≤ m) (hm : m ≤ 1000000000) : Ev (fun k => laws_heldFlash.f k (marksT m n) (marksDt (m + n) d) m) (m + n + 2 * d) := by
  unfold laws_heldFlash.f
  refine Ev.bind (heldStr n m (by omega) h0 (by omega)) ?_
  simp only [if_neg (show ¬ m + (n : Int) < 0 by omega)]
  refine Ev.bind (heldDty d (m + n) (by omega) (by omega) (by omega)) ?_
  simp only [if_neg (show ¬ m + (n : Int) + 2 * (d : Int) < 0 by omega)]
  exact Ev.now _
theorem eqFO (S : List ByteArray) (D : List Dty) (t : ByteArray) (c : Int) (h1 : S.length < 9223372036854775807) (h2 : D.length < 9223372036854775807) : Ev (fun k => laws_eqFlashOut.f k S D t c S D t c) true := by
  unfold laws_eqFlashOut.f
  refine Ev.bind (eqFl S D h1 h2) ?_
  simp only [if_true]
  exact Ev.now _
theorem markFO (S : List ByteArray) (D : List Dty) (t : ByteArray) (c m : Int) (h1 : S.length ≤ 10000000) (h2 : D.length ≤ 10000000) (h0 : 0 ≤ m) (hm : m ≤ 1000000000) : Ev (fun k => laws_markFlashOut.f k S D t c m) (m + S.length + 2 * D.length, marksT m S.length, marksDt (m + S.length) D.length) := by
  unfold laws_markFlashOut.f
  exact Ev.bind (markFl S D m h1 h2 h0 hm) (Ev.now _)
theorem heldFO (n d : Nat) (t : ByteArray) (c m : Int) (h1 : n ≤ 10000000) (h2 : d ≤ 10000000) (h0 : 0 ≤ m) (hm : m ≤ 1000000000) : Ev (fun k => laws_heldFlashOut.f k (marksT m n) (marksDt (m + n) d) t c m) (m + n + 2 * d) := by
  unfold laws_heldFlashOut.f
  refine Ev.bind (heldFl n d m h1 h2 h0 hm) ?_
  simp only [if_neg (show ¬ m + (n : Int) + 2 * (d : Int) < 0 by omega)]
  exact Ev.now _
end Go.Proofs.Ytibnmnkembbgeaa.Pure
namespace Go.Proofs.Ytibnmnkembbgeaa.Pure
set_option linter.unusedVariables false
set_option linter.unusedSimpArgs false
open Go Go.RowKit Go.Proofs.Ytibnmnkembbgeaa.Q Go.Proofs.YtibnmnkembbgeaaW.PrintWords Go.Proofs.YtibnmnkembbgeaaW.PrintLast Go.Proofs.YtibnmnkembbgeaaW.PrintMore
abbrev LAct := S115
def actOf (x : LAct) : Act := ⟨x.f0, x.f1, x.f2⟩
theorem rdLA_mid (p : List LAct) (a : LAct) (r : List LAct) : rd_T115 (p ++ a :: r) (p.length : Int) = a := by simp [rd_T115]
theorem toAct_l0 (N : Nat) (hN : N < 9223372036854775807) (r : List LAct) : ∀ p : List LAct, p.length + r.length = N →
    Ev (fun k => laws_toActS.l0 k (p ++ r) (p.map actOf ++ List.replicate r.length z116) (p.length : Int)) ((p ++ r).map actOf) := by
  induction r with
  | nil => intro p h; exact Ev.step (fun k => by rw [laws_toActS.l0, if_neg (not_lt_end p)]) (by simpa using Ev.now _)
  | cons a r ih =>
    intro p h
    simp only [List.length_cons] at h
    have hl : (p.length : Int) < ((p.map actOf ++ List.replicate (a :: r).length z116).length : Int) := by simp only [List.length_append, List.length_map, List.length_replicate, List.length_cons]; omega
    refine Ev.step (fun k => by rw [laws_toActS.l0, if_pos (lt_mid p a r), if_pos (by omega), rdLA_mid, next64 (by omega)]) ?_
    refine Ev.bind1 (a := (a.f0, a.f1, a.f2)) (by unfold laws_toAct.f; rfl) ?_
    simp only [if_pos hl]
    have := ih (p ++ [a]) (by simp; omega)
    rw [← snoc_app, lenS_snoc] at this
    have e : (p.map actOf ++ List.replicate (a :: r).length z116).set ((p.length : Nat) : Int).toNat (⟨a.f0, a.f1, a.f2⟩ : Act) = (p ++ [a]).map actOf ++ List.replicate r.length z116 := by
      rw [List.length_cons, List.replicate_succ]
      have := set_mid (p.map actOf) z116 (⟨a.f0, a.f1, a.f2⟩ : Act) (List.replicate r.length z116)
      rw [List.length_map] at this
      rw [this]; simp [actOf]
    rw [← e] at this
    exact this
theorem toActs (l : List LAct) (h : l.length ≤ 8796093022208) : Ev (fun k => laws_toActS.f k l) (l.map actOf) := by
  unfold laws_toActS.f
  simp only [if_pos (show (0 : Int) ≤ (l.length : Int) by omega), if_pos (show ((l.length : Int)).toNat ≤ 8796093022208 by omega), Int.toNat_natCast]
  have := toAct_l0 l.length (by omega) l [] (by simp)
  simpa [h] using this
theorem szAct_l0 (N : Nat) (hN : N ≤ 1048576) (r : List LAct) : ∀ (p : List LAct) (x : Int), p.length + r.length = N → 0 ≤ x → x ≤ 1048576 → (∀ s ∈ r, s.f2.size ≤ 9223372036854775807) →
    ∃ v, Ev (fun k => laws_szActS.l0 k (p ++ r) x (p.length : Int)) v := by
  induction r with
  | nil => intro p x h h0 h1 _; exact ⟨x, Ev.step (fun k => by rw [laws_szActS.l0, if_neg (not_lt_end p)]) (Ev.now _)⟩
  | cons a r ih =>
    intro p x h h0 h1 hs
    simp only [List.length_cons] at h
    have ha := hs a (by simp)
    by_cases g : x - (a.f2.size : Int) < 0
    · refine ⟨-1, Ev.step (fun k => by rw [laws_szActS.l0, if_pos (lt_mid p a r), if_pos (by omega), rdLA_mid]) (Ev.bind1 (a := -1) (by unfold laws_szAct.f; rw [wrap64_id (n := x - (a.f2.size : Int)) (by omega) (by omega), if_pos g]) ?_)⟩
      simp only [show ((-1 : Int) < 0) from by decide, if_true]; exact Ev.now _
    · obtain ⟨v, e⟩ := ih (p ++ [a]) (x - (a.f2.size : Int)) (by simp; omega) (by omega) (by omega) (fun s h => hs s (by simp [h]))
      rw [← snoc_app, lenS_snoc] at e
      refine ⟨v, Ev.step (fun k => by rw [laws_szActS.l0, if_pos (lt_mid p a r), if_pos (by omega), rdLA_mid, next64 (by omega)]) (Ev.bind1 (a := x - (a.f2.size : Int)) (by unfold laws_szAct.f; rw [wrap64_id (n := x - (a.f2.size : Int)) (by omega) (by omega), if_neg g]) ?_)⟩
      simp only [if_neg g]; exact e
theorem szActs (l : List LAct) (x : Int) (h0 : 0 ≤ x) (h1 : x ≤ 1048576) (hl : l.length ≤ 9223372036854775807) (hs : ∀ s ∈ l, s.f2.size ≤ 9223372036854775807) : ∃ v, Ev (fun k => laws_szActS.f k l x) v ∧ (¬ v < 0 → l.length ≤ 1048576) := by
  unfold laws_szActS.f
  rw [wrap64_id (n := x - (l.length : Int)) (by omega) (by omega)]
  by_cases g : x - (l.length : Int) < 0
  · exact ⟨-1, by simp only [if_pos g]; exact Ev.now _, by omega⟩
  · obtain ⟨v, e⟩ := szAct_l0 l.length (by omega) l [] (x - (l.length : Int)) (by simp) (by omega) (by omega) hs
    exact ⟨v, by simp only [if_neg g]; exact e, by omega⟩
theorem szFl2 (S : List ByteArray) (D : List LDty) (h1 : S.length ≤ 9223372036854775807) (h2 : ∀ s ∈ S, s.size ≤ 9223372036854775807) (h3 : D.length ≤ 9223372036854775807) (h4 : ∀ s ∈ D, s.f1.size ≤ 9223372036854775807) :
    ∃ v, Ev (fun k => laws_szFlash.f k S D 1048576) v ∧ (¬ v < 0 → S.length ≤ 1048576 ∧ D.length ≤ 1048576) ∧ v ≤ 1048576 := by
  unfold laws_szFlash.f
  obtain ⟨v, e, hv, v0, v1⟩ := szStr2 S h1 h2
  by_cases g : v < 0
  · exact ⟨-1, Ev.bind e (by simp only [if_pos g]; exact Ev.now _), by omega, by omega⟩
  · obtain ⟨x, e2, hx, x0, x1⟩ := szDt2 D v (by omega) v1 h3 h4
    by_cases g2 : x < 0
    · exact ⟨-1, Ev.bind e (by simp only [if_neg g]; exact Ev.bind e2 (by simp only [if_pos g2]; exact Ev.now _)), by omega, by omega⟩
    · exact ⟨x, Ev.bind e (by simp only [if_neg g]; exact Ev.bind e2 (by simp only [if_neg g2]; exact Ev.now _)), fun _ => ⟨hv g, hx g2⟩, x1⟩
end Go.Proofs.Ytibnmnkembbgeaa.Pure
namespace Go.Proofs.Ytibnmnkembbgeaa.Pure
set_option linter.unusedVariables false
set_option linter.unusedSimpArgs false
open Go Go.RowKit Go.Proofs.Ytibnmnkembbgeaa.Q Go.Proofs.Ytibnmnkembbgeaa.Open Go.Proofs.YtibnmnkembbgeaaW.PrintWords Go.Proofs.YtibnmnkembbgeaaW.PrintLast Go.Proofs.YtibnmnkembbgeaaW.PrintMore
theorem FnExactActsDo : ∀ (S : List ByteArray) (D0 : List LDty) (L0 : List LAct), (okList okStr S ∧ okList (fun x : LDty => okInt .i64 x.f0 ∧ okStr x.f1) D0) → okList (fun x : LAct => okBool x.f0 ∧ okInt .i64 x.f1 ∧ okStr x.f2) L0 → ∃ k, laws_FnExactActsDo.f k S D0 L0 = some true := by
  intro S D0 L0 ⟨ok1, ok2⟩ okl
  refine Ev.rounds ?_
  have hM : maxLen ≤ 9223372036854775807 := by decide
  obtain ⟨v, e, hv, hv1⟩ := szFl2 S D0 (Nat.le_trans ok1.1 hM) (fun s hs => Nat.le_trans (ok1.2 s hs) hM) (Nat.le_trans ok2.1 hM) (fun s hs => Nat.le_trans (ok2.2 s hs).2 hM)
  unfold laws_FnExactActsDo.f
  refine Ev.bind e ?_
  by_cases g : v < 0
  · simp only [if_pos g]; exact Ev.now _
  simp only [if_neg g]
  obtain ⟨v2, e2, hv2⟩ := szActs L0 v (by omega) hv1 (Nat.le_trans okl.1 hM) (fun s hs => Nat.le_trans (okl.2 s hs).2.2 hM)
  refine Ev.bind e2 ?_
  by_cases g2 : v2 < 0
  · simp only [if_pos g2]; exact Ev.now _
  simp only [if_neg g2]
  obtain ⟨hl1, hl2⟩ := hv g
  have hl3 := hv2 g2
  have hto := toFl S D0 (by omega) (by omega)
  have hE : (D0.map dtyOf).length = D0.length := by simp
  generalize D0.map dtyOf = D at hto hE
  have til := toActs L0 (by omega)
  have hE2 : (L0.map actOf).length = L0.length := by simp
  generalize L0.map actOf = l at til hE2
  have hi := implActsDo S D l (by omega) (by omega)
  have hs := specActsDo S D l
  have hr := actsF_len S D l
  refine Ev.bind hto (Ev.bind til (Ev.bind hs (Ev.bind hto (Ev.bind til (Ev.bind1 hi ?_)))))
  generalize actsF S D l = R at hi hs hr ⊢
  refine Ev.bind (eqFO R.1 R.2.1 R.2.2.1 R.2.2.2 (by omega) (by omega)) ?_
  simp only [if_true]
  refine Ev.bind hto (Ev.bind (eqFl S D (by omega) (by omega)) ?_)
  simp only [if_true]
  refine Ev.bind til (Ev.bind (eqActs l (by omega)) ?_)
  simp only [if_true]
  refine Ev.bind (markFl S D 1 (by omega) (by omega) (by omega) (by omega)) (Ev.bind (markActs l (1 + S.length + 2 * D.length) (by omega) (by omega) (by omega)) ?_)
  simp only [if_neg (show ¬ (1 + (S.length : Int) + 2 * (D.length : Int) + 3 * (l.length : Int)) < 0 by omega)]
  refine Ev.bind (eqFO R.1 R.2.1 R.2.2.1 R.2.2.2 (by omega) (by omega)) (Ev.step (fun k => by rw [laws_FnExactActsDo.j0, if_neg (by decide)]) ?_)
  refine Ev.bind (markFO R.1 R.2.1 R.2.2.1 R.2.2.2 1 (by omega) (by omega) (by omega) (by omega)) (Ev.bind (heldFO R.1.length R.2.1.length R.2.2.1 R.2.2.2 1 (by omega) (by omega) (by omega) (by omega)) ?_)
  simp only [if_neg (show ¬ (1 + (R.1.length : Int) + 2 * (R.2.1.length : Int)) < 0 by omega), if_true]
  refine Ev.bind hto (Ev.bind til (Ev.bind1 hi (Ev.bind (eqFO R.1 R.2.1 R.2.2.1 R.2.2.2 (by omega) (by omega)) ?_)))
  simp only [if_true]
  refine Ev.bind (heldFO R.1.length R.2.1.length R.2.2.1 R.2.2.2 1 (by omega) (by omega) (by omega) (by omega)) ?_
  simp only [if_neg (show ¬ (1 + (R.1.length : Int) + 2 * (R.2.1.length : Int)) < 0 by omega), if_true]
  exact Ev.now _
end Go.Proofs.Ytibnmnkembbgeaa.Pure
