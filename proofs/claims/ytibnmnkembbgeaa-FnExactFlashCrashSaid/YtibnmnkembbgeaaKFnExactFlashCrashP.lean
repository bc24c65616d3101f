/- Pure texts in one: The program's FlashCrash and the reference's FlashCrash return the same, for every flash and list of fates; both stay as they were, the result is new memory. -/
import Derived.Test.YtibnmnkembbgeaaKFnExactFlashCrash0
import Derived.Test.YtibnmnkembbgeaaKFnExactFlashCrash1
import Derived.Test.YtibnmnkembbgeaaKFnExactFlashCrash2
import Derived.Test.YtibnmnkembbgeaaKFnExactFlashCrash3
import Derived.Test.YtibnmnkembbgeaaKFnExactFlashCrash4
import Derived.Test.YtibnmnkembbgeaaKFnExactFlashCrash5
import Derived.Test.YtibnmnkembbgeaaWMore
import Derived.ProofKit
import Derived.WalkKit
import Derived.Deep.Slices
import Derived.DataReads
import Derived.Laws.BitsAllLaws
import Derived.Laws.Strings
namespace Go.Proofs.Ytibnmnkembbgeaa.Open
set_option linter.unusedVariables false
set_option linter.unusedSimpArgs false
open Go Go.RowKit Go.Deep Go.Proofs.YtibnmnkembbgeaaW.PrintWords Go.Proofs.YtibnmnkembbgeaaW.PrintLast Go.Proofs.YtibnmnkembbgeaaW.PrintMore
/-- Cells of type t that can be read as data are a value of the kind d, for which ok holds. -/
def Opens {α : Type} (d : Kd α) (ok : α → Prop) (P : Program) (t : TypeId) : Prop :=
  ∀ (H : Type) (enc : TypeId × Value → H) (W : World) (base : Nat) (spare : Nat → Bool) (held : Bool) (fuel : Nat) (cs : List Value) (x : DataW H × List MemPlace),
    DataW.trod enc P W base spare held fuel t cs = some x → ∃ a : α, d.K W a cs ∧ ok a
def okInt (k : IntKind) (n : Int) : Prop := (Lit.int k n).wf = true
def okStr (s : ByteArray) : Prop := s.size ≤ maxLen
def okList {α : Type} (ok : α → Prop) (l : List α) : Prop := l.length ≤ maxLen ∧ ∀ a ∈ l, ok a
theorem opens_int {P : Program} {t : TypeId} {k : IntKind} (ht : P.underlying t = some (.int k)) : Opens (Kd.int k) (okInt k) P t := by
  intro H enc W base spare held fuel cs x h
  obtain ⟨n, rfl, _, hw⟩ := DataW.trod_int ht h
  exact ⟨n, rfl, hw⟩
theorem opens_string {P : Program} {t : TypeId} (ht : P.underlying t = some .string) : Opens Kd.string okStr P t := by
  intro H enc W base spare held fuel cs x h
  obtain ⟨s, rfl, _, hw⟩ := DataW.trod_string ht h
  exact ⟨s, rfl, hw⟩
theorem cells_at {w : World} {base : Nat} {a : Addr} {n : Nat} {cs : List Value} (h : w.cells? base a n = some cs) : cs.length = n ∧ ∀ i u, cs[i]? = some u → w.cell? (a.add i) = some u := by
  unfold World.cells? at h
  split at h
  · have hl : cs.length = n := by simpa using mapM_some_length h
    refine ⟨hl, fun i u hi => ?_⟩
    have hil : i < cs.length := (List.getElem?_eq_some_iff.1 hi).1
    have := mapM_some_get h i i (by rw [List.getElem?_range (by omega)])
    rw [this, hi]
  · cases h
theorem opens_slice {α : Type} {d : Kd α} {ok : α → Prop} {P : Program} {t e : TypeId} (z : α) (ht : P.underlying t = some (.slice e)) (hc : P.cellsOf e = d.sz) (he : Opens d ok P e) : Opens (Kd.slice e d) (okList ok) P t := by
  intro H enc W base spare held fuel cs x h
  rcases open_slice ht h with ⟨rfl, _⟩ | ⟨a, len, cap, m, n, D, Pl, rfl, _, hl, hm, hmeq, _, hel⟩
  · exact ⟨[], ⟨none, 0, rfl, Nat.le_refl _, rfl, by simp, fun hp => by simp at hp⟩, by simp [okList], by simp⟩
  · have hlm : len ≤ m := by rw [hmeq]; split <;> omega
    have key : ∀ i, i < len → ∃ y : α, ok y ∧ ∃ c, c.length = d.sz ∧ d.K W y c ∧ ∀ j u, c[j]? = some u → W.cell? (a.add (i * d.sz + j)) = some u := by
      intro i hi
      obtain ⟨cs', h1, h2⟩ := hel i (by omega)
      obtain ⟨y, hy, hok⟩ := he H enc W base spare held n cs' _ h2
      have hca := cells_at h1
      refine ⟨y, hok, cs', by rw [hca.1, hc], hy, fun j u hj => ?_⟩
      have := hca.2 j u hj
      rw [Go.Deep.add_add, hc] at this
      exact this
    let f : Nat → α := fun i => if h : i < len then (key i h).choose else z
    have hf : ∀ i (h : i < len), f i = (key i h).choose := fun i h => by simp only [f]; rw [dif_pos h]
    have hlen : ((List.range len).map f).length = len := by simp
    have hmax : (9223372036854775807 : Nat) ≥ maxLen := by unfold maxLen; omega
    refine ⟨(List.range len).map f, ⟨some a, cap, by rw [hlen], by rw [hlen]; exact hl, ?_⟩, by rw [hlen]; omega, fun y hy => ?_⟩
    · rw [hlen]
      refine ⟨hlen, by omega, fun _ => ⟨a, rfl, fun j p hj => ?_⟩⟩
      have hj' : j < len := by have := (List.getElem?_eq_some_iff.1 hj).1; rwa [hlen] at this
      have e : p = f j := by
        rw [List.getElem?_map, List.getElem?_range hj'] at hj
        simpa using hj.symm
      subst e
      rw [hf j hj']
      obtain ⟨_, c, h1, h2, h3⟩ := (key j hj').choose_spec
      exact ⟨c, h1, h2, h3⟩
    · obtain ⟨i, hi, rfl⟩ := List.mem_map.1 hy
      have hi' : i < len := by simpa using hi
      rw [hf i hi']
      exact (key i hi').choose_spec.1
/-- The fields fs, the first at cell off, tell a value of the kind d. -/
def OpensFs {α : Type} (d : Kd α) (ok : α → Prop) (P : Program) (fs : List Field) (off : Nat) : Prop :=
  ∀ (H : Type) (enc : TypeId × Value → H) (W : World) (base : Nat) (spare : Nat → Bool) (held : Bool) (n : Nat) (cs : List Value), cs.length = off + d.sz →
    (∀ f, f ∈ fs → ∃ y, DataW.trod enc P W base spare held n f.type ((cs.drop f.offset).take (P.cellsOf f.type)) = some y) → ∃ a : α, d.K W a (cs.drop off) ∧ ok a
theorem opensFs_one {α : Type} {d : Kd α} {ok : α → Prop} {P : Program} {f : Field} {off : Nat} (ho : f.offset = off) (hc : P.cellsOf f.type = d.sz) (h : Opens d ok P f.type) : OpensFs d ok P [f] off := by
  intro H enc W base spare held n cs hl hf
  obtain ⟨y, hy⟩ := hf f (by simp)
  rw [ho, hc, List.take_of_length_le (by rw [List.length_drop]; omega)] at hy
  exact h H enc W base spare held n _ _ hy
theorem opensFs_cons {α β : Type} {a : Kd α} {b : Kd β} {oka : α → Prop} {okb : β → Prop} {P : Program} {f : Field} {fs : List Field} {off : Nat} (ho : f.offset = off) (hc : P.cellsOf f.type = a.sz) (h : Opens a oka P f.type) (hs : OpensFs b okb P fs (off + a.sz)) :
    OpensFs (Kd.pair a b) (fun x => oka x.1 ∧ okb x.2) P (f :: fs) off := by
  intro H enc W base spare held n cs hl hf
  have hsz : (Kd.pair a b).sz = a.sz + b.sz := rfl
  rw [hsz] at hl
  obtain ⟨y, hy⟩ := hf f (by simp)
  rw [ho, hc] at hy
  obtain ⟨p, hp, hpo⟩ := h H enc W base spare held n _ _ hy
  obtain ⟨q, hq, hqo⟩ := hs H enc W base spare held n cs (by omega) (fun g hg => hf g (by simp [hg]))
  refine ⟨(p, q), ⟨(cs.drop off).take a.sz, cs.drop (off + a.sz), ?_, hp, hq⟩, hpo, hqo⟩
  rw [← List.drop_drop, List.take_append_drop]
theorem opens_struct {α β : Type} {d : Kd α} {ok : α → Prop} {P : Program} {t : TypeId} {fs : Array Field} (f : β → α) (g : α → β) (hfg : ∀ a, f (g a) = a) (ht : P.underlying t = some (.struct fs)) (hc : P.cellsOf t = d.sz) (h : OpensFs d ok P fs.toList 0) : Opens (Kd.iso d f) (fun x => ok (f x)) P t := by
  intro H enc W base spare held fuel cs x hx
  obtain ⟨xs, n, _, rfl, hl, hlen, hf⟩ := DataW.trod_struct ht hx
  obtain ⟨a, ha, hok⟩ := h H enc W base spare held n cs (by omega) (fun f hf' => by
    obtain ⟨i, hi⟩ := List.getElem?_of_mem hf'
    have hi2 : fs[i]? = some f := by rw [← hi]; simp
    have := hf i f hi2
    have hil : i < xs.length := by rw [hlen]; exact (Array.getElem?_eq_some_iff.1 hi2).1
    rw [List.getElem?_eq_getElem hil] at this
    exact ⟨_, this⟩)
  exact ⟨g a, by show d.K W (f (g a)) cs; rw [hfg]; simpa using ha, by show ok (f (g a)); rw [hfg]; exact hok⟩
end Go.Proofs.Ytibnmnkembbgeaa.Open
namespace Go.Proofs.Ytibnmnkembbgeaa.Pure
set_option linter.unusedVariables false
set_option linter.unusedSimpArgs false
open Go Go.RowKit Go.Proofs.YtibnmnkembbgeaaW.PrintWords Go.Proofs.YtibnmnkembbgeaaW.PrintLast Go.Proofs.YtibnmnkembbgeaaW.PrintMore
theorem wrap64_id {n : Int} (h0 : -9223372036854775808 ≤ n) (h1 : n ≤ 9223372036854775807) : wrap64 n = n := by
  unfold wrap64; omega
theorem i64_of_wf {n : Int} (h : (Lit.int .i64 n).wf = true) : -9223372036854775808 ≤ n ∧ n ≤ 9223372036854775807 := by
  simpa [Lit.wf, IntKind.min, IntKind.max, IntKind.signed, IntKind.bits] using h
/-- One is known without rounds. -/
theorem Ev.bind1 {α β : Type} {g : Option α} {f : Nat → α → Option β} {a : α} {r : β} (h : g = some a) (k : Ev (fun n => f n a) r) : Ev (fun n => g.bind (f n)) r := by
  subst h
  exact k
end Go.Proofs.Ytibnmnkembbgeaa.Pure
namespace Go.Proofs.Ytibnmnkembbgeaa.Pure
set_option linter.unusedVariables false
set_option linter.unusedSimpArgs false
open Go Go.RowKit Go.Proofs.YtibnmnkembbgeaaW.PrintWords Go.Proofs.YtibnmnkembbgeaaW.PrintLast Go.Proofs.YtibnmnkembbgeaaW.PrintMore
theorem rd_mid (p : List Int) (a : Int) (r : List Int) : rd (p ++ a :: r) (p.length : Int) = a := by simp [rd]
theorem set_mid {α : Type} (p : List α) (a b : α) (r : List α) : (p ++ a :: r).set (p.length : Int).toNat b = p ++ b :: r := by simp
theorem snoc_app {α : Type} (p : List α) (a : α) (r : List α) : p ++ a :: r = (p ++ [a]) ++ r := by simp
theorem lt_mid {α : Type} (p : List α) (a : α) (r : List α) : (p.length : Int) < ((p ++ a :: r).length : Int) := by rw [List.length_append, List.length_cons]; omega
theorem not_lt_end {α : Type} (p : List α) : ¬ (p.length : Int) < ((p ++ []).length : Int) := by rw [List.append_nil]; omega
theorem next64 {i : Nat} (h : i < 9223372036854775807) : wrap64 ((i : Int) + 1) = ((i + 1 : Nat) : Int) := by rw [wrap64_id (by omega) (by omega)]; omega
end Go.Proofs.Ytibnmnkembbgeaa.Pure
namespace Go.Proofs.Ytibnmnkembbgeaa.Pure
set_option linter.unusedVariables false
set_option linter.unusedSimpArgs false
open Go Go.RowKit Go.Proofs.Ytibnmnkembbgeaa.Q Go.Proofs.YtibnmnkembbgeaaW.PrintWords Go.Proofs.YtibnmnkembbgeaaW.PrintLast Go.Proofs.YtibnmnkembbgeaaW.PrintMore
def mtGo : Nat → Nat → ByteArray → ByteArray
  | 0, _, acc => (⟨#[109]⟩ : ByteArray) ++ acc
  | d + 1, x, acc => if x = 0 then (⟨#[109]⟩ : ByteArray) ++ acc else mtGo d (x / 10) (strOfNums [(wrap64 (48 + (Int.tmod (x : Int) 10))) % 256] ++ acc)
def markT (m : Int) : ByteArray := if m ≤ 0 then (⟨#[109, 48]⟩ : ByteArray) else mtGo 19 m.toNat (⟨#[]⟩ : ByteArray)
theorem markText_l0 (d : Nat) : ∀ (x : Nat) (acc : ByteArray), x < 10 ^ d → x < 9223372036854775807 → acc.size + d ≤ 1000 → Ev (fun k => laws_markText.l0 k (x : Int) acc) (mtGo d x acc) := by
  induction d with
  | zero =>
    intro x acc h _ hs
    simp only [Nat.pow_zero, Nat.lt_one_iff] at h
    subst h
    exact Ev.step (fun k => by rw [laws_markText.l0, if_neg (by omega), if_pos (by omega)]) (by rw [mtGo]; exact Ev.now _)
  | succ d ih =>
    intro x acc h h6 hs
    rw [mtGo]
    by_cases g : x = 0
    · subst g
      exact Ev.step (fun k => by rw [laws_markText.l0, if_neg (by omega), if_pos (by omega)]) (by rw [if_pos rfl]; exact Ev.now _)
    · rw [if_neg g]
      have e1 : wrap64 (Int.tdiv (x : Int) 10) = ((x / 10 : Nat) : Int) := by
        rw [Int.tdiv_eq_ediv_of_nonneg (by omega), wrap64_id (by omega) (by omega)]; omega
      have e2 : (strOfNums [(wrap64 (48 + (Int.tmod (x : Int) 10))) % 256]).size = 1 := by rw [strOfNums_size]; rfl
      refine Ev.step (fun k => by rw [laws_markText.l0, if_pos (by omega), Option.bind_some, if_pos (by rw [e2]; omega), e1]) ?_
      exact ih (x / 10) _ (by rw [Nat.pow_succ] at h; omega) (by omega) (by rw [ByteArray.size_append, e2]; omega)
theorem markText (m : Int) (h : m ≤ 4000000000000000000) : Ev (fun k => laws_markText.f k m) (markT m) := by
  unfold laws_markText.f markT
  by_cases g : m ≤ 0
  · simp only [if_pos g]; exact Ev.now _
  · simp only [if_neg g]
    have := markText_l0 19 m.toNat (⟨#[]⟩ : ByteArray) (by omega) (by omega) (by decide)
    rw [Int.toNat_of_nonneg (by omega)] at this
    exact this
end Go.Proofs.Ytibnmnkembbgeaa.Pure
namespace Go.Proofs.Ytibnmnkembbgeaa.Pure
set_option linter.unusedVariables false
set_option linter.unusedSimpArgs false
open Go Go.RowKit Go.Proofs.Ytibnmnkembbgeaa.Q Go.Proofs.YtibnmnkembbgeaaW.PrintWords Go.Proofs.YtibnmnkembbgeaaW.PrintLast Go.Proofs.YtibnmnkembbgeaaW.PrintMore
theorem rdS_mid (p : List ByteArray) (a : ByteArray) (r : List ByteArray) : rdOf ByteArray.empty (p ++ a :: r) (p.length : Int) = a := by simp [rdOf]
theorem lenS_snoc {α : Type} (q : List α) (e : α) : (q ++ [e]).length = q.length + 1 := by simp
theorem eqStr_l0 (N : Nat) (hN : N < 9223372036854775807) (r : List ByteArray) : ∀ p : List ByteArray, p.length + r.length = N → Ev (fun k => laws_eqStringS.l0 k (p ++ r) (p ++ r) (p.length : Int)) true := by
  induction r with
  | nil => intro p h; exact Ev.step (fun k => by rw [laws_eqStringS.l0, if_neg (not_lt_end p)]) (Ev.now _)
  | cons a r ih =>
    intro p h
    simp only [List.length_cons] at h
    refine Ev.step (fun k => by rw [laws_eqStringS.l0, if_pos (lt_mid p a r), if_pos (by omega), if_pos (lt_mid p a r), if_pos rfl, next64 (by omega)]) ?_
    have := ih (p ++ [a]) (by simp; omega)
    rw [← snoc_app, lenS_snoc] at this
    exact this
theorem eqStr (l : List ByteArray) (h : l.length < 9223372036854775807) : Ev (fun k => laws_eqStringS.f k l l) true := by
  unfold laws_eqStringS.f
  simp only [if_true]
  exact eqStr_l0 l.length h l [] (by simp)
end Go.Proofs.Ytibnmnkembbgeaa.Pure
namespace Go.Proofs.Ytibnmnkembbgeaa.Pure
set_option linter.unusedVariables false
set_option linter.unusedSimpArgs false
open Go Go.RowKit Go.Proofs.Ytibnmnkembbgeaa.Q Go.Proofs.YtibnmnkembbgeaaW.PrintWords Go.Proofs.YtibnmnkembbgeaaW.PrintLast Go.Proofs.YtibnmnkembbgeaaW.PrintMore
abbrev LDty := S132
abbrev Dty := S92
def dtyOf (x : LDty) : Dty := ⟨x.f0, x.f1⟩
theorem rdLD_mid (p : List LDty) (a : LDty) (r : List LDty) : rd_T132 (p ++ a :: r) (p.length : Int) = a := by simp [rd_T132]
theorem rdD_mid (p : List Dty) (a : Dty) (r : List Dty) : rd_T92 (p ++ a :: r) (p.length : Int) = a := by simp [rd_T92]
theorem toDt_l0 (N : Nat) (hN : N < 9223372036854775807) (r : List LDty) : ∀ p : List LDty, p.length + r.length = N →
    Ev (fun k => laws_toDirtyS.l0 k (p ++ r) (p.map dtyOf ++ List.replicate r.length z92) (p.length : Int)) ((p ++ r).map dtyOf) := by
  induction r with
  | nil => intro p h; exact Ev.step (fun k => by rw [laws_toDirtyS.l0, if_neg (not_lt_end p)]) (by simpa using Ev.now _)
  | cons a r ih =>
    intro p h
    simp only [List.length_cons] at h
    have hl : (p.length : Int) < ((p.map dtyOf ++ List.replicate (a :: r).length z92).length : Int) := by simp only [List.length_append, List.length_map, List.length_replicate, List.length_cons]; omega
    refine Ev.step (fun k => by rw [laws_toDirtyS.l0, if_pos (lt_mid p a r), if_pos (by omega), rdLD_mid, next64 (by omega)]) ?_
    refine Ev.bind1 (a := (a.f0, a.f1)) (by unfold laws_toDirty.f; rfl) ?_
    simp only [if_pos hl]
    have := ih (p ++ [a]) (by simp; omega)
    rw [← snoc_app, lenS_snoc] at this
    have e : (p.map dtyOf ++ List.replicate (a :: r).length z92).set ((p.length : Nat) : Int).toNat (⟨a.f0, a.f1⟩ : Dty) = (p ++ [a]).map dtyOf ++ List.replicate r.length z92 := by
      rw [List.length_cons, List.replicate_succ]
      have := set_mid (p.map dtyOf) z92 (⟨a.f0, a.f1⟩ : Dty) (List.replicate r.length z92)
      rw [List.length_map] at this
      rw [this]; simp [dtyOf]
    rw [← e] at this
    exact this
theorem toDt (l : List LDty) (h : l.length ≤ 11728124029610) : Ev (fun k => laws_toDirtyS.f k l) (l.map dtyOf) := by
  unfold laws_toDirtyS.f
  simp only [if_pos (show (0 : Int) ≤ (l.length : Int) by omega), if_pos (show ((l.length : Int)).toNat ≤ 11728124029610 by omega), Int.toNat_natCast]
  have := toDt_l0 l.length (by omega) l [] (by simp)
  simpa [h] using this
theorem szDt_l0 (N : Nat) (hN : N ≤ 1048576) (r : List LDty) : ∀ (p : List LDty) (x : Int), p.length + r.length = N → 0 ≤ x → x ≤ 1048576 → (∀ s ∈ r, s.f1.size ≤ 9223372036854775807) →
    ∃ v, Ev (fun k => laws_szDirtyS.l0 k (p ++ r) x (p.length : Int)) v ∧ -1 ≤ v ∧ v ≤ 1048576 := by
  induction r with
  | nil => intro p x h h0 h1 _; exact ⟨x, Ev.step (fun k => by rw [laws_szDirtyS.l0, if_neg (not_lt_end p)]) (Ev.now _), by omega, by omega⟩
  | cons a r ih =>
    intro p x h h0 h1 hs
    simp only [List.length_cons] at h
    have ha := hs a (by simp)
    by_cases g : x - (a.f1.size : Int) < 0
    · refine ⟨-1, Ev.step (fun k => by rw [laws_szDirtyS.l0, if_pos (lt_mid p a r), if_pos (by omega), rdLD_mid]) (Ev.bind1 (a := -1) (by unfold laws_szDirty.f; rw [wrap64_id (n := x - (a.f1.size : Int)) (by omega) (by omega), if_pos g]) ?_), by omega, by omega⟩
      simp only [show ((-1 : Int) < 0) from by decide, if_true]; exact Ev.now _
    · obtain ⟨v, e, b0, b1⟩ := ih (p ++ [a]) (x - (a.f1.size : Int)) (by simp; omega) (by omega) (by omega) (fun s h => hs s (by simp [h]))
      rw [← snoc_app, lenS_snoc] at e
      refine ⟨v, Ev.step (fun k => by rw [laws_szDirtyS.l0, if_pos (lt_mid p a r), if_pos (by omega), rdLD_mid, next64 (by omega)]) (Ev.bind1 (a := x - (a.f1.size : Int)) (by unfold laws_szDirty.f; rw [wrap64_id (n := x - (a.f1.size : Int)) (by omega) (by omega), if_neg g]) ?_), b0, b1⟩
      simp only [if_neg g]; exact e
theorem szDt2 (l : List LDty) (x : Int) (h0 : 0 ≤ x) (h1 : x ≤ 1048576) (hl : l.length ≤ 9223372036854775807) (hs : ∀ s ∈ l, s.f1.size ≤ 9223372036854775807) : ∃ v, Ev (fun k => laws_szDirtyS.f k l x) v ∧ (¬ v < 0 → l.length ≤ 1048576) ∧ -1 ≤ v ∧ v ≤ 1048576 := by
  unfold laws_szDirtyS.f
  rw [wrap64_id (n := x - (l.length : Int)) (by omega) (by omega)]
  by_cases g : x - (l.length : Int) < 0
  · exact ⟨-1, by simp only [if_pos g]; exact Ev.now _, by omega, by omega, by omega⟩
  · obtain ⟨v, e, b0, b1⟩ := szDt_l0 l.length (by omega) l [] (x - (l.length : Int)) (by simp) (by omega) (by omega) hs
    exact ⟨v, by simp only [if_neg g]; exact e, by omega, b0, b1⟩
theorem eqDt_l0 (N : Nat) (hN : N < 9223372036854775807) (r : List Dty) : ∀ p : List Dty, p.length + r.length = N → Ev (fun k => laws_eqDirtyS.l0 k (p ++ r) (p ++ r) (p.length : Int)) true := by
  induction r with
  | nil => intro p h; exact Ev.step (fun k => by rw [laws_eqDirtyS.l0, if_neg (not_lt_end p)]) (Ev.now _)
  | cons a r ih =>
    intro p h
    simp only [List.length_cons] at h
    refine Ev.step (fun k => by rw [laws_eqDirtyS.l0, if_pos (lt_mid p a r), if_pos (by omega), if_pos (lt_mid p a r), rdD_mid, next64 (by omega)]) ?_
    refine Ev.bind1 (a := true) (by unfold laws_eqDirty.f; simp) ?_
    simp only [if_true]
    have := ih (p ++ [a]) (by simp; omega)
    rw [← snoc_app, lenS_snoc] at this
    exact this
theorem eqDt (l : List Dty) (h : l.length < 9223372036854775807) : Ev (fun k => laws_eqDirtyS.f k l l) true := by
  unfold laws_eqDirtyS.f
  simp only [if_true]
  exact eqDt_l0 l.length h l [] (by simp)
def markDt (m : Int) : Dty := ⟨m, markT (m + 1)⟩
def marksDt : Int → Nat → List Dty
  | _, 0 => []
  | m, n + 1 => markDt m :: marksDt (m + 2) n
theorem markDty_l0 (N : Nat) (hN : N < 1000000000000000000) (r : List Dty) : ∀ (p : List Dty) (m : Int), p.length + r.length = N → 0 ≤ m → m + 2 * r.length ≤ 4000000000000000000 →
    Ev (fun k => laws_markDirtyS.l0 k (p ++ r) m (p.length : Int)) (m + 2 * r.length, p ++ marksDt m r.length) := by
  induction r with
  | nil => intro p m h h0 h1; exact Ev.step (fun k => by rw [laws_markDirtyS.l0, if_neg (not_lt_end p)]) (by simpa [marksDt] using Ev.now _)
  | cons a r ih =>
    intro p m h h0 h1
    simp only [List.length_cons] at h h1
    refine Ev.step (fun k => by rw [laws_markDirtyS.l0, if_pos (lt_mid p a r), if_pos (by omega), next64 (by omega), wrap64_id (n := m + 1) (by omega) (by omega), wrap64_id (n := m + 1 + 1) (by omega) (by omega), rdD_mid, set_mid]) ?_
    simp only [Option.bind_some, rdD_mid, set_mid]
    refine Ev.bind (markText (m + 1) (by omega)) ?_
    have := ih (p ++ [markDt m]) (m + 2) (by simp; omega) (by omega) (by omega)
    rw [← snoc_app, lenS_snoc, List.append_assoc] at this
    rw [List.length_cons, marksDt, show m + 2 * ((r.length + 1 : Nat) : Int) = m + 2 + 2 * (r.length : Int) by omega]
    rw [show m + 1 + 1 = m + 2 by omega]
    exact this
theorem markDty (l : List Dty) (m : Int) (h : l.length < 1000000000000000000) (h0 : 0 ≤ m) (h1 : m + 2 * l.length ≤ 4000000000000000000) : Ev (fun k => laws_markDirtyS.f k l m) (m + 2 * l.length, marksDt m l.length) := by
  unfold laws_markDirtyS.f
  have := markDty_l0 l.length h l [] m (by simp) h0 h1
  exact this
theorem heldDty_l0 (N : Nat) (hN : N < 1000000000000000000) (n : Nat) : ∀ (p : List Dty) (m : Int), p.length + n = N → 0 ≤ m → m + 2 * n ≤ 4000000000000000000 →
    Ev (fun k => laws_heldDirtyS.l0 k (p ++ marksDt m n) m (p.length : Int)) (m + 2 * n) := by
  induction n with
  | zero => intro p m h h0 h1; rw [marksDt]; exact Ev.step (fun k => by rw [laws_heldDirtyS.l0, if_neg (not_lt_end p)]) (by simpa using Ev.now _)
  | succ n ih =>
    intro p m h h0 h1
    rw [marksDt]
    refine Ev.step (fun k => by rw [laws_heldDirtyS.l0, if_pos (lt_mid p _ _), if_pos (by omega), rdD_mid, next64 (by omega), wrap64_id (n := m + 1) (by omega) (by omega), wrap64_id (n := m + 1 + 1) (by omega) (by omega), if_pos (show (markDt m).f0 = m from rfl)]) ?_
    refine Ev.bind (markText (m + 1) (by omega)) ?_
    simp only [if_pos (show ((markDt m).f1).toList = (markT (m + 1)).toList from rfl)]
    have := ih (p ++ [markDt m]) (m + 2) (by simp; omega) (by omega) (by omega)
    rw [← snoc_app, lenS_snoc] at this
    rw [show m + 2 * ((n + 1 : Nat) : Int) = m + 2 + 2 * (n : Int) by omega, show m + 1 + 1 = m + 2 by omega]
    exact this
theorem heldDty (n : Nat) (m : Int) (h : n < 1000000000000000000) (h0 : 0 ≤ m) (h1 : m + 2 * n ≤ 4000000000000000000) : Ev (fun k => laws_heldDirtyS.f k (marksDt m n) m) (m + 2 * n) := by
  unfold laws_heldDirtyS.f
  exact heldDty_l0 n h n [] m (by simp) h0 h1
end Go.Proofs.Ytibnmnkembbgeaa.Pure
namespace Go.Proofs.Ytibnmnkembbgeaa.Pure
set_option linter.unusedVariables false
set_option linter.unusedSimpArgs false
open Go Go.RowKit Go.Proofs.Ytibnmnkembbgeaa.Q Go.Proofs.YtibnmnkembbgeaaW.PrintWords Go.Proofs.YtibnmnkembbgeaaW.PrintLast Go.Proofs.YtibnmnkembbgeaaW.PrintMore
theorem l03Is_eq (a b c : Int) : spec_l03Is.f a b c = some (decide (b ≤ a ∧ a ≤ c)) := by
  unfold spec_l03Is.f
  by_cases h : a ≥ b
  · rw [if_pos h]; congr 1; rw [Bool.eq_iff_iff]; simp; omega
  · rw [if_neg h]; congr 1; simp; omega
end Go.Proofs.Ytibnmnkembbgeaa.Pure
namespace Go.Proofs.Ytibnmnkembbgeaa.Pure
set_option linter.unusedVariables false
set_option linter.unusedSimpArgs false
open Go Go.RowKit Go.Proofs.Ytibnmnkembbgeaa.Q Go.Proofs.YtibnmnkembbgeaaW.PrintWords Go.Proofs.YtibnmnkembbgeaaW.PrintLast Go.Proofs.YtibnmnkembbgeaaW.PrintMore
theorem idx_before {α : Type} (p : α → Bool) (x : α) (r : List α) (hx : p x = true) : ∀ (a : List α) (i : Int), (idxFrom p (a ++ x :: r) i < i + a.length ↔ a.any p = true) := by
  intro a
  induction a with
  | nil => intro i; simp [idxFrom, hx]
  | cons y a ih =>
    intro i
    rw [List.cons_append, idxFrom, List.any_cons]
    by_cases h : p y = true
    · rw [if_pos h, h]; simp; omega
    · rw [if_neg h, Bool.eq_false_iff.2 h, Bool.false_or, ← ih (i + 1)]; simp only [List.length_cons]; omega
def dirtM (n : Int) : List Dty → List Dty → Bool
  | _, [] => true
  | p, x :: r => if impl_isFlash.has n x.f0 = true then (if (x.f1.size : Int) > 96 then false else if p.any (impl_Flash_dirty.is x.f0) = true then false else dirtM n (p ++ [x]) r) else false
def flashM (S : List ByteArray) (D : List Dty) : Bool := impl_isFlash.head S D && dirtM S.length [] D
theorem scan_eq (n : Int) (r : List Dty) : ∀ (p : List Dty), impl_isFlash.scan n (p ++ r) r (p.length : Int) = dirtM n p r := by
  induction r with
  | nil => intro p; rfl
  | cons x r ih =>
    intro p
    have e : ((p.length : Int) + 1) = ((p ++ [x]).length : Int) := by simp
    have ea : p ++ x :: r = (p ++ [x]) ++ r := by simp
    have hx : impl_Flash_dirty.is x.f0 x = true := by simp [impl_Flash_dirty.is]
    have hb := idx_before (impl_Flash_dirty.is x.f0) x r hx p 0
    rw [Int.zero_add] at hb
    have ih' := ih (p ++ [x])
    rw [← ea, ← e] at ih'
    rw [impl_isFlash.scan, dirtM, ih']
    by_cases g : p.any (impl_Flash_dirty.is x.f0) = true
    · simp only [if_pos g, if_pos (hb.2 g)]
    · simp only [if_neg g, if_neg (fun h => g (hb.1 h))]
theorem implFlash (S : List ByteArray) (D : List Dty) (h1 : S.length ≤ 9223372036854775807) (h2 : D.length ≤ 9223372036854775807) : impl_isFlash.f S D = some (flashM S D) := by
  have := scan_eq S.length D []
  unfold impl_isFlash.f flashM
  rw [if_pos ⟨h1, h2⟩, ← this]; rfl
theorem specTwo (n : Nat) (S : List ByteArray) (L : List Dty) (x : Dty) (r : List Dty) (R : Bool) (q2 : List Dty) : ∀ (q1 : List Dty), (q1 ++ q2).length ≤ 40 → L = (q1 ++ q2) ++ x :: r →
    Ev (fun k => spec_FlashRight.l1 k (((q1 ++ q2).length : Int) + 1) S L) R →
    Ev (fun k => spec_FlashRight.l2 k ((q1 ++ q2).length : Int) (q1.length : Int) S L) (if q2.any (impl_Flash_dirty.is x.f0) = true then false else R) := by
  induction q2 with
  | nil =>
    intro q1 h hL hR
    rw [List.append_nil] at h hL hR ⊢
    refine Ev.step (f := fun k => spec_FlashRight.l1 k ((q1.length : Int) + 1) S L) (fun k => by rw [spec_FlashRight.l2, if_neg (by omega), wrap64_id (n := (q1.length : Int) + 1) (by omega) (by omega)]) ?_
    simpa using hR
  | cons y q2 ih =>
    intro q1 h hL hR
    have ea : q1 ++ y :: q2 = (q1 ++ [y]) ++ q2 := by simp
    have hlen : (q1 ++ y :: q2).length = q1.length + 1 + q2.length := by simp; omega
    have hy : rd_T92 L (q1.length : Int) = y := by rw [hL, List.append_assoc, List.cons_append]; exact rdD_mid _ _ _
    have hxx : rd_T92 L ((q1 ++ y :: q2).length : Int) = x := by rw [hL]; exact rdD_mid _ _ _
    have hLl : ((q1 ++ y :: q2).length : Int) < (L.length : Int) := by rw [hL]; exact lt_mid _ _ _
    have ih' := ih (q1 ++ [y]) (by rw [← ea]; exact h) (by rw [← ea]; exact hL) (by rw [← ea]; exact hR)
    rw [← ea, lenS_snoc] at ih'
    refine Ev.step (fun k => by rw [spec_FlashRight.l2, if_pos (by omega), if_pos (show (0 : Int) ≤ (q1.length : Int) by omega), if_pos (show (q1.length : Int) < (L.length : Int) by omega), if_pos (by omega), if_pos hLl, hy, hxx, next64 (by omega)]) ?_
    rw [List.any_cons]
    by_cases g : y.f0 = x.f0
    · simp only [if_pos g]
      rw [show impl_Flash_dirty.is x.f0 y = true by simp [impl_Flash_dirty.is, g], Bool.true_or, if_pos rfl]
      exact Ev.now _
    · simp only [if_neg g]
      rw [show impl_Flash_dirty.is x.f0 y = false by simp [impl_Flash_dirty.is, g], Bool.false_or]
      exact ih'
theorem specDirt (S : List ByteArray) (hS : 1 ≤ S.length ∧ S.length ≤ 40) (L : List Dty) (hL : L.length ≤ 40) (r : List Dty) : ∀ (p : List Dty), L = p ++ r → Ev (fun k => spec_FlashRight.l1 k (p.length : Int) S L) (dirtM S.length p r) := by
  induction r with
  | nil =>
    intro p h
    subst h
    exact Ev.step (f := fun _ => some true) (fun k => by rw [spec_FlashRight.l1, if_neg (not_lt_end p)]) (Ev.now _)
  | cons x r ih =>
    intro p h
    have hl : p.length + 1 + r.length ≤ 40 := by rw [h] at hL; simp at hL; omega
    have hlt : (p.length : Int) < (L.length : Int) := by rw [h]; exact lt_mid p x r
    have hx : rd_T92 L (p.length : Int) = x := by rw [h]; exact rdD_mid _ _ _
    have ih' := ih (p ++ [x]) (by rw [h]; simp)
    rw [lenS_snoc] at ih'
    have h2 := specTwo 0 S L x r _ p [] (by simp; omega) (by simpa using h) (by simpa using ih')
    rw [List.nil_append] at h2
    refine Ev.step (fun k => by rw [spec_FlashRight.l1, if_pos hlt, if_pos (by omega), hx, wrap64_id (n := (S.length : Int) - 1) (by omega) (by omega)]) ?_
    simp only [l03Is_eq, Option.bind_some]
    rw [dirtM]
    unfold impl_isFlash.has
    by_cases g : 0 ≤ x.f0 ∧ x.f0 ≤ (S.length : Int) - 1
    · simp only [decide_eq_true g, if_true]
      by_cases g2 : (x.f1.size : Int) > 96
      · rw [decide_eq_true g2, if_pos g2]
        exact Ev.step (f := fun _ => some false) (fun k => by rw [spec_FlashRight.j3, if_pos rfl]) (Ev.now _)
      · rw [decide_eq_false g2, if_neg g2]
        exact Ev.step (f := fun k => spec_FlashRight.l2 k (p.length : Int) 0 S L) (fun k => by rw [spec_FlashRight.j3, if_neg (by decide)]) h2
    · simp only [decide_eq_false g, Bool.false_eq_true, if_false]
      exact Ev.step (f := fun _ => some false) (fun k => by rw [spec_FlashRight.j3, if_pos rfl]) (Ev.now _)
theorem specSize (L : List Dty) (S : List ByteArray) (hS : S.length ≤ 40) (R : Bool) (hR : Ev (fun k => spec_FlashRight.l1 k 0 S L) R) (r : List ByteArray) : ∀ (p : List ByteArray), S = p ++ r → Ev (fun k => spec_FlashRight.l0 k (p.length : Int) S L) (!(r.any impl_isFlash.long) && R) := by
  induction r with
  | nil =>
    intro p h
    subst h
    refine Ev.step (fun k => by rw [spec_FlashRight.l0, if_neg (not_lt_end p)]) ?_
    simpa using hR
  | cons x r ih =>
    intro p h
    have hl : p.length + 1 + r.length ≤ 40 := by rw [h] at hS; simp at hS; omega
    have hlt : (p.length : Int) < (S.length : Int) := by rw [h]; exact lt_mid p x r
    have hx : rdOf ByteArray.empty S (p.length : Int) = x := by rw [h]; exact rdS_mid _ _ _
    have ih' := ih (p ++ [x]) (by rw [h]; simp)
    rw [lenS_snoc] at ih'
    refine Ev.step (fun k => by rw [spec_FlashRight.l0, if_pos hlt, if_pos (by omega), hx, next64 (by omega)]) ?_
    rw [List.any_cons]
    by_cases g : (x.size : Int) > 96
    · simp only [if_pos g]
      rw [show impl_isFlash.long x = true from decide_eq_true g, Bool.true_or, Bool.not_true, Bool.false_and]
      exact Ev.now _
    · simp only [if_neg g]
      rw [show impl_isFlash.long x = false from decide_eq_false g, Bool.false_or]
      exact ih'
theorem specFlash (S : List ByteArray) (D : List Dty) : Ev (fun k => spec_FlashRight.f k S D) (flashM S D) := by
  unfold spec_FlashRight.f flashM impl_isFlash.head
  by_cases h1 : (S.length : Int) < 1
  · simp only [if_pos h1]
    rw [decide_eq_false (show ¬ (1 ≤ (S.length : Int) ∧ (S.length : Int) ≤ 40) by omega), Bool.false_and, Bool.false_and]
    exact Ev.step (f := fun _ => some false) (fun k => by rw [spec_FlashRight.j0, if_pos rfl]) (Ev.now _)
  · simp only [if_neg h1]
    by_cases h2 : (S.length : Int) > 40
    · simp only [if_pos h2]
      rw [decide_eq_false (show ¬ (1 ≤ (S.length : Int) ∧ (S.length : Int) ≤ 40) by omega), Bool.false_and, Bool.false_and]
      exact Ev.step (f := fun _ => some false) (fun k => by rw [spec_FlashRight.j0, if_pos rfl]) (Ev.now _)
    · simp only [if_neg h2]
      rw [decide_eq_true (show 1 ≤ (S.length : Int) ∧ (S.length : Int) ≤ 40 by omega), Bool.true_and]
      by_cases h3 : (D.length : Int) > (S.length : Int)
      · rw [decide_eq_true h3, decide_eq_false (show ¬ (D.length : Int) ≤ (S.length : Int) by omega), Bool.false_and, Bool.false_and]
        exact Ev.step (f := fun _ => some false) (fun k => by rw [spec_FlashRight.j0, if_pos rfl]) (Ev.now _)
      · rw [decide_eq_false h3, decide_eq_true (show (D.length : Int) ≤ (S.length : Int) by omega), Bool.true_and]
        refine Ev.step (fun k => by rw [spec_FlashRight.j0, if_neg (by decide)]) ?_
        exact specSize D S (by omega) _ (specDirt S (by omega) D (by omega) D [] rfl) S [] rfl
/-- A right flash. -/
theorem flash_len {S : List ByteArray} {D : List Dty} (h : flashM S D = true) : (1 ≤ S.length ∧ S.length ≤ 40) ∧ D.length ≤ S.length := by
  unfold flashM impl_isFlash.head at h
  simp only [Bool.and_eq_true, decide_eq_true_eq] at h
  omega
theorem dirtM_at (n : Int) : ∀ (r p : List Dty), dirtM n p r = true → ∀ x ∈ r, 0 ≤ x.f0 ∧ x.f0 ≤ n - 1 := by
  intro r
  induction r with
  | nil => intro p _ x hx; cases hx
  | cons y r ih =>
    intro p h x hx
    rw [dirtM] at h
    by_cases g : impl_isFlash.has n y.f0 = true
    · rw [if_pos g] at h
      split at h
      · cases h
      · split at h
        · cases h
        · rcases List.mem_cons.1 hx with rfl | hx
          · unfold impl_isFlash.has at g; simpa using g
          · exact ih _ h x hx
    · rw [if_neg g] at h; cases h
theorem flash_at {S : List ByteArray} {D : List Dty} (h : flashM S D = true) : ∀ x ∈ D, 0 ≤ x.f0 ∧ x.f0 < (S.length : Int) := by
  unfold flashM at h
  rw [Bool.and_eq_true] at h
  intro x hx
  have := dirtM_at _ _ _ h.2 x hx
  omega
end Go.Proofs.Ytibnmnkembbgeaa.Pure
namespace Go.Proofs.Ytibnmnkembbgeaa.Pure
set_option linter.unusedVariables false
set_option linter.unusedSimpArgs false
open Go Go.RowKit Go.Proofs.Ytibnmnkembbgeaa.Q Go.Proofs.YtibnmnkembbgeaaW.PrintWords Go.Proofs.YtibnmnkembbgeaaW.PrintLast Go.Proofs.YtibnmnkembbgeaaW.PrintMore
theorem specCopy (S : List ByteArray) (D : List Dty) (h1 : S.length ≤ 10000000) (h2 : D.length ≤ 10000000) : spec_l03Copy.f S D = some (S, D) := by
  unfold spec_l03Copy.f
  simp only [Option.bind_some, List.length_nil, List.nil_append, if_pos (show 0 + S.length < 8796093022208 by omega), if_pos (show 0 + D.length < 5864062014805 by omega)]
end Go.Proofs.Ytibnmnkembbgeaa.Pure
namespace Go.Proofs.Ytibnmnkembbgeaa.Pure
set_option linter.unusedVariables false
set_option linter.unusedSimpArgs false
open Go Go.RowKit Go.Proofs.Ytibnmnkembbgeaa.Q Go.Proofs.YtibnmnkembbgeaaW.PrintWords Go.Proofs.YtibnmnkembbgeaaW.PrintLast Go.Proofs.YtibnmnkembbgeaaW.PrintMore
/-- What is left of a sector. -/
def tornM (o f : ByteArray) (t : Int) : ByteArray := if t < 1 then o else if t = 1 then f else f.extract 0 (min (t - 2).toNat f.size)
theorem implTorn (o f : ByteArray) (t : Int) (hf : f.size ≤ 140737488351232) (ht : (Lit.int .i64 t).wf = true) : impl_torn.f o f t = some (tornM o f t) := by
  obtain ⟨h0, h1⟩ := i64_of_wf ht
  unfold impl_torn.f tornM
  by_cases a : t < 1
  · rw [if_pos a, if_pos a]
  · rw [if_neg a, if_neg a]
    by_cases b : t = 1
    · rw [if_pos b, if_pos b]
    · rw [if_neg b, if_neg b, wrap64_id (by omega) (by omega)]
      have e : mn (t - 2) (f.size : Int) = ((min (t - 2).toNat f.size : Nat) : Int) := by unfold mn; split <;> omega
      rw [e, if_pos (by omega), if_pos (by omega), Int.toNat_natCast]
theorem specTorn (o f : ByteArray) (t : Int) (hf : f.size ≤ 140737488351232) (ht : (Lit.int .i64 t).wf = true) : Ev (fun k => spec_Torn.f k o f t) (if (o.size : Int) > 8000 ∨ (f.size : Int) > 8000 then ⟨#[]⟩ else tornM o f t) := by
  obtain ⟨h0, h1⟩ := i64_of_wf ht
  unfold spec_Torn.f
  by_cases a : (o.size : Int) > 8000
  · simp only [if_pos a, if_pos (show (o.size : Int) > 8000 ∨ (f.size : Int) > 8000 from .inl a)]
    exact Ev.step (fun k => by rw [spec_Torn.j0, if_pos rfl, if_pos a]) (Ev.now _)
  · simp only [if_neg a]
    by_cases b : (f.size : Int) > 8000
    · simp only [if_pos b, if_pos (show (o.size : Int) > 8000 ∨ (f.size : Int) > 8000 from .inr b)]
      exact Ev.step (fun k => by rw [spec_Torn.j0, if_pos rfl, if_neg a, if_pos b]) (Ev.now _)
    · simp only [if_neg b, if_neg (show ¬ ((o.size : Int) > 8000 ∨ (f.size : Int) > 8000) by omega)]
      refine Ev.step (f := fun _ => some (tornM o f t)) (fun k => ?_) (Ev.now _)
      rw [spec_Torn.j0]
      unfold tornM
      by_cases c : t < 1
      · rw [if_pos (by simpa using c), if_neg a, if_neg b, if_pos c]
      · rw [if_neg (by simpa using c), if_neg c]
        by_cases d : t = 1
        · rw [if_pos d, if_pos d]
        · rw [if_neg d, if_neg d, wrap64_id (by omega) (by omega)]
          by_cases e : t - 2 > (f.size : Int)
          · rw [if_pos e, if_pos (by omega), if_pos (by omega), Int.toNat_natCast, show min (t - 2).toNat f.size = f.size by omega]
          · rw [if_neg e, if_pos (by omega), if_pos (by omega), show min (t - 2).toNat f.size = (t - 2).toNat by omega]
end Go.Proofs.Ytibnmnkembbgeaa.Pure
namespace Go.Proofs.Ytibnmnkembbgeaa.Pure
set_option linter.unusedVariables false
set_option linter.unusedSimpArgs false
open Go Go.RowKit Go.Proofs.Ytibnmnkembbgeaa.Q Go.Proofs.YtibnmnkembbgeaaW.PrintWords Go.Proofs.YtibnmnkembbgeaaW.PrintLast Go.Proofs.YtibnmnkembbgeaaW.PrintMore
def fateM (l : List Int) (i : Int) : Int := if i < (l.length : Int) then rd l i else 0
def crashM (l : List Int) : List Dty → Int → List ByteArray → List ByteArray
  | [], _, S => S
  | x :: r, i, S => crashM l r (i + 1) (S.set x.f0.toNat (tornM (rdOf ByteArray.empty S x.f0) x.f1 (fateM l i)))
theorem crashM_length (l : List Int) : ∀ (D : List Dty) (i : Int) (S : List ByteArray), (crashM l D i S).length = S.length := by
  intro D
  induction D with
  | nil => intro i S; rfl
  | cons x r ih => intro i S; rw [crashM, ih, List.length_set]
theorem rd_wf (l : List Int) (h : ∀ x ∈ l, (Lit.int .i64 x).wf = true) (i : Int) : (Lit.int .i64 (rd l i)).wf = true := by
  unfold rd
  rw [List.getD_eq_getElem?_getD]
  by_cases g : i.toNat < l.length
  · rw [List.getElem?_eq_getElem g]; exact h _ (List.getElem_mem g)
  · rw [List.getElem?_eq_none (by omega)]; decide
theorem fate_wf (l : List Int) (h : ∀ x ∈ l, (Lit.int .i64 x).wf = true) (i : Int) : (Lit.int .i64 (fateM l i)).wf = true := by
  unfold fateM; split
  · exact rd_wf l h i
  · decide
theorem implCrashed (l : List Int) (h : ∀ x ∈ l, (Lit.int .i64 x).wf = true) : ∀ (D : List Dty) (i : Int) (S : List ByteArray), (∀ x ∈ D, x.f1.size ≤ 96) → impl_Flash_crashed l D i S = some (crashM l D i S) := by
  intro D
  induction D with
  | nil => intro i S _; rfl
  | cons x r ih =>
    intro i S hs
    rw [impl_Flash_crashed, crashM]
    have e := implTorn (rdOf ByteArray.empty S x.f0) x.f1 (fateM l i) (by have := hs x (by simp); omega) (fate_wf l h i)
    unfold fateM at e ⊢
    rw [e, Option.bind_some]
    exact ih _ _ (fun y hy => hs y (by simp [hy]))
theorem dirtM_size (n : Int) : ∀ (r p : List Dty), dirtM n p r = true → ∀ x ∈ r, x.f1.size ≤ 96 := by
  intro r
  induction r with
  | nil => intro p _ x hx; cases hx
  | cons y r ih =>
    intro p h x hx
    rw [dirtM] at h
    by_cases g : impl_isFlash.has n y.f0 = true
    · rw [if_pos g] at h
      by_cases g2 : (y.f1.size : Int) > 96
      · rw [if_pos g2] at h; cases h
      · rw [if_neg g2] at h
        split at h
        · cases h
        · rcases List.mem_cons.1 hx with rfl | hx
          · omega
          · exact ih _ h x hx
    · rw [if_neg g] at h; cases h
theorem dirtM_ne (n : Int) : ∀ (r p : List Dty), dirtM n p r = true → ∀ y ∈ r, ∀ x ∈ p, x.f0 ≠ y.f0 := by
  intro r
  induction r with
  | nil => intro p _ y hy; cases hy
  | cons z r ih =>
    intro p h y hy x hx
    rw [dirtM] at h
    by_cases g : impl_isFlash.has n z.f0 = true
    · rw [if_pos g] at h
      split at h
      · cases h
      · split at h
        · cases h
        · rename_i h3
          rcases List.mem_cons.1 hy with rfl | hy
          · intro e
            exact h3 (List.any_eq_true.2 ⟨x, hx, by simp [impl_Flash_dirty.is, e]⟩)
          · exact ih _ h y hy x (by simp [hx])
    · rw [if_neg g] at h; cases h
theorem dirtM_tail (n : Int) (p : List Dty) (x : Dty) (r : List Dty) (h : dirtM n p (x :: r) = true) : dirtM n (p ++ [x]) r = true := by
  rw [dirtM] at h
  split at h
  · split at h
    · cases h
    · split at h
      · cases h
      · exact h
  · cases h
theorem rdOf_set {S : List ByteArray} {a b : Int} (ha : 0 ≤ a) (hb : 0 ≤ b) (h : a ≠ b) (t : ByteArray) : rdOf ByteArray.empty (S.set a.toNat t) b = rdOf ByteArray.empty S b := by
  unfold rdOf
  rw [List.getD_eq_getElem?_getD, List.getD_eq_getElem?_getD, List.getElem?_set_ne (by omega)]
theorem specCrashed (l : List Int) (h : ∀ x ∈ l, (Lit.int .i64 x).wf = true) (hl : l.length ≤ 400) (S0 : List ByteArray) (hS0 : ∀ s ∈ S0, s.size ≤ 96) (N : Nat) (hN : N ≤ 1000000) (r : List Dty) : ∀ (p : List Dty) (S : List ByteArray), p.length + r.length = N → S.length = S0.length → dirtM S0.length p r = true →
    (∀ x ∈ r, rdOf ByteArray.empty S x.f0 = rdOf ByteArray.empty S0 x.f0) → Ev (fun k => spec_FlashCrash.l0 k l (p.length : Int) S0 (p ++ r) S) (crashM l r (p.length : Int) S, ([] : List Dty)) := by
  induction r with
  | nil => intro p S hp _ _ _; exact Ev.step (f := fun _ => some (S, ([] : List Dty))) (fun k => by rw [spec_FlashCrash.l0, if_neg (not_lt_end p)]) (Ev.now _)
  | cons x r ih =>
    intro p S hp hS hd hr
    simp only [List.length_cons] at hp
    obtain ⟨x0, x1⟩ := dirtM_at _ _ _ hd x (by simp)
    have hx1 := dirtM_size _ _ _ hd x (by simp)
    have hx := hr x (by simp)
    have hsz : (rdOf ByteArray.empty S0 x.f0).size ≤ 96 := by
      have hl2 : x.f0.toNat < S0.length := by omega
      have e : rdOf ByteArray.empty S0 x.f0 = S0[x.f0.toNat] := by simp [rdOf, hl2]
      rw [e]; exact hS0 _ (List.getElem_mem hl2)
    have hT := specTorn (rdOf ByteArray.empty S0 x.f0) x.f1 (fateM l (p.length : Int)) (by omega) (fate_wf l h _)
    rw [if_neg (by omega)] at hT
    have hd2 := dirtM_tail _ _ _ _ hd
    have hne := dirtM_ne _ _ _ hd2
    have ih' := ih (p ++ [x]) (S.set x.f0.toNat (tornM (rdOf ByteArray.empty S0 x.f0) x.f1 (fateM l (p.length : Int)))) (by simp; omega) (by rw [List.length_set]; exact hS) hd2 (fun y hy => by
      have hy0 := (dirtM_at _ _ _ hd y (by simp [hy])).1
      rw [rdOf_set x0 hy0 (hne y hy x (by simp))]
      exact hr y (by simp [hy]))
    rw [← snoc_app, lenS_snoc] at ih'
    rw [crashM, hx, show (p.length : Int) + 1 = ((p.length + 1 : Nat) : Int) by omega]
    unfold fateM at hT ih' ⊢
    refine Ev.step (fun k => by rw [spec_FlashCrash.l0, if_pos (lt_mid p x r), rdD_mid, next64 (by omega)]) ?_
    simp only [if_pos (show (0 : Int) ≤ (p.length : Int) by omega), if_pos x0, if_pos (show x.f0 < (S0.length : Int) by omega), if_pos (show x.f0 < (S.length : Int) by omega)]
    by_cases g : (p.length : Int) < (l.length : Int)
    · simp only [if_pos g] at hT ih' ⊢
      exact Ev.bind hT ih'
    · simp only [if_neg g] at hT ih' ⊢
      exact Ev.bind hT ih'
def crashF (S : List ByteArray) (D : List Dty) (l : List Int) : List ByteArray × List Dty := if (l.length : Int) > 400 then ([], []) else if flashM S D = true then (crashM l D 0 S, []) else (S, D)
theorem crashF_len1 (S : List ByteArray) (D : List Dty) (l : List Int) : (crashF S D l).1.length ≤ S.length := by
  unfold crashF; split
  · simp
  · split
    · rw [crashM_length]; exact Nat.le_refl _
    · exact Nat.le_refl _
theorem crashF_len2 (S : List ByteArray) (D : List Dty) (l : List Int) : (crashF S D l).2.length ≤ D.length := by
  unfold crashF; split
  · simp
  · split <;> simp
theorem implClone2 (S : List ByteArray) (D : List Dty) (h1 : S.length ≤ 10000000) (h2 : D.length ≤ 10000000) : impl_cloneFlash.f S D = some (S, D) := by
  unfold impl_cloneFlash.f slices_Clone_string_string.f slices_Clone_S92.f
  rw [if_pos (by omega), Option.bind_some, if_pos (by omega), Option.bind_some]
theorem flash_dirt {S : List ByteArray} {D : List Dty} (h : flashM S D = true) : dirtM S.length [] D = true := by
  unfold flashM at h; rw [Bool.and_eq_true] at h; exact h.2
theorem flash_sizes {S : List ByteArray} {D : List Dty} (h : flashM S D = true) : ∀ s ∈ S, s.size ≤ 96 := by
  unfold flashM impl_isFlash.head at h
  simp only [Bool.and_eq_true, Bool.not_eq_true', List.any_eq_false] at h
  intro s hs
  have := h.1.2.2 s hs
  unfold impl_isFlash.long at this
  simp only [decide_eq_true_eq] at this
  omega
theorem implFlashCrash (S : List ByteArray) (D : List Dty) (l : List Int) (h : ∀ x ∈ l, (Lit.int .i64 x).wf = true) (h1 : S.length ≤ 10000000) (h2 : D.length ≤ 10000000) : impl_FlashCrash.f S D l = some (crashF S D l) := by
  unfold impl_FlashCrash.f crashF
  by_cases g0 : (l.length : Int) > 400
  · rw [if_pos g0, if_pos g0]
  · rw [if_neg g0, if_neg g0, implClone2 S D h1 h2, Option.bind_some, implFlash S D (by omega) (by omega), Option.bind_some]
    by_cases g : flashM S D = true
    · obtain ⟨hs, hd⟩ := flash_len g
      have hok : impl_FlashCrash.okD S D = true := by
        unfold impl_FlashCrash.okD
        simp only [Bool.and_eq_true, decide_eq_true_eq, List.all_eq_true]
        exact ⟨by omega, fun x hx => flash_at g x hx⟩
      rw [if_pos g, if_pos g, if_pos hok, implCrashed l h D 0 S (dirtM_size _ _ _ (flash_dirt g)), Option.bind_some]
    · rw [if_neg g, if_neg g]
theorem specFlashCrash (S : List ByteArray) (D : List Dty) (l : List Int) (h : ∀ x ∈ l, (Lit.int .i64 x).wf = true) (h1 : S.length ≤ 10000000) (h2 : D.length ≤ 10000000) : Ev (fun k => spec_FlashCrash.f k S D l) (crashF S D l) := by
  unfold spec_FlashCrash.f crashF
  by_cases g0 : (l.length : Int) > 400
  · simp only [if_pos g0]; exact Ev.now _
  · simp only [if_neg g0]
    refine Ev.bind (specFlash S D) ?_
    by_cases g : flashM S D = true
    · obtain ⟨hs, hd⟩ := flash_len g
      simp only [if_pos g, Option.bind_some, List.length_nil, List.nil_append, if_pos (show 0 + S.length < 8796093022208 by omega)]
      exact specCrashed l h (by omega) S (flash_sizes g) D.length (by omega) D [] S (by simp) rfl (flash_dirt g) (fun _ _ => rfl)
    · simp only [if_neg g, specCopy S D h1 h2, Option.bind_some]
      exact Ev.now _
end Go.Proofs.Ytibnmnkembbgeaa.Pure
namespace Go.Proofs.Ytibnmnkembbgeaa.Pure
set_option linter.unusedVariables false
set_option linter.unusedSimpArgs false
open Go Go.RowKit Go.Proofs.Ytibnmnkembbgeaa.Q Go.Proofs.YtibnmnkembbgeaaW.PrintWords Go.Proofs.YtibnmnkembbgeaaW.PrintLast Go.Proofs.YtibnmnkembbgeaaW.PrintMore
def marksT : Int → Nat → List ByteArray
  | _, 0 => []
  | m, n + 1 => markT m :: marksT (m + 1) n
theorem markStr_l0 (N : Nat) (hN : N < 1000000000000000000) (r : List ByteArray) : ∀ (p : List ByteArray) (m : Int), p.length + r.length = N → 0 ≤ m → m + r.length ≤ 4000000000000000000 →
    Ev (fun k => laws_markStringS.l0 k (p ++ r) m (p.length : Int)) (m + r.length, p ++ marksT m r.length) := by
  induction r with
  | nil => intro p m h h0 h1; exact Ev.step (fun k => by rw [laws_markStringS.l0, if_neg (not_lt_end p)]) (by simpa [marksT] using Ev.now _)
  | cons a r ih =>
    intro p m h h0 h1
    simp only [List.length_cons] at h h1
    refine Ev.step (fun k => by rw [laws_markStringS.l0, if_pos (lt_mid p a r), next64 (by omega), wrap64_id (n := m + 1) (by omega) (by omega)]) ?_
    refine Ev.bind (markText m (by omega)) ?_
    simp only [if_pos (show (0 : Int) ≤ (p.length : Int) by omega)]
    have := ih (p ++ [markT m]) (m + 1) (by simp; omega) (by omega) (by omega)
    rw [← snoc_app, lenS_snoc, List.append_assoc] at this
    rw [List.length_cons, marksT, show m + ((r.length + 1 : Nat) : Int) = m + 1 + (r.length : Int) by omega]
    simp only [set_mid]
    exact this
theorem markStr (l : List ByteArray) (m : Int) (h : l.length < 1000000000000000000) (h0 : 0 ≤ m) (h1 : m + l.length ≤ 4000000000000000000) : Ev (fun k => laws_markStringS.f k l m) (m + l.length, marksT m l.length) := by
  unfold laws_markStringS.f
  have := markStr_l0 l.length h l [] m (by simp) h0 h1
  exact this
theorem heldStr_l0 (N : Nat) (hN : N < 1000000000000000000) (n : Nat) : ∀ (p : List ByteArray) (m : Int), p.length + n = N → 0 ≤ m → m + n ≤ 4000000000000000000 →
    Ev (fun k => laws_heldStringS.l0 k (p ++ marksT m n) m (p.length : Int)) (m + n) := by
  induction n with
  | zero => intro p m h h0 h1; rw [marksT]; exact Ev.step (fun k => by rw [laws_heldStringS.l0, if_neg (not_lt_end p)]) (by simpa using Ev.now _)
  | succ n ih =>
    intro p m h h0 h1
    rw [marksT]
    refine Ev.step (fun k => by rw [laws_heldStringS.l0, if_pos (lt_mid p _ _), if_pos (by omega), rdS_mid, next64 (by omega), wrap64_id (n := m + 1) (by omega) (by omega)]) ?_
    refine Ev.bind (markText m (by omega)) ?_
    simp only [if_true]
    have := ih (p ++ [markT m]) (m + 1) (by simp; omega) (by omega) (by omega)
    rw [← snoc_app, lenS_snoc] at this
    rw [show m + ((n + 1 : Nat) : Int) = m + 1 + (n : Int) by omega]
    exact this
theorem heldStr (n : Nat) (m : Int) (h : n < 1000000000000000000) (h0 : 0 ≤ m) (h1 : m + n ≤ 4000000000000000000) : Ev (fun k => laws_heldStringS.f k (marksT m n) m) (m + n) := by
  unfold laws_heldStringS.f
  exact heldStr_l0 n h n [] m (by simp) h0 h1
end Go.Proofs.Ytibnmnkembbgeaa.Pure
namespace Go.Proofs.Ytibnmnkembbgeaa.Pure
set_option linter.unusedVariables false
set_option linter.unusedSimpArgs false
open Go Go.RowKit Go.Proofs.Ytibnmnkembbgeaa.Q Go.Proofs.YtibnmnkembbgeaaW.PrintWords Go.Proofs.YtibnmnkembbgeaaW.PrintLast Go.Proofs.YtibnmnkembbgeaaW.PrintMore
theorem toStr_l0 (N : Nat) (hN : N < 9223372036854775807) (r : List ByteArray) : ∀ p : List ByteArray, p.length + r.length = N →
    Ev (fun k => laws_toStringS.l0 k (p ++ r) (p ++ List.replicate r.length (⟨#[]⟩ : ByteArray)) (p.length : Int)) (p ++ r) := by
  induction r with
  | nil => intro p h; exact Ev.step (fun k => by rw [laws_toStringS.l0, if_neg (not_lt_end p)]) (by simpa using Ev.now _)
  | cons a r ih =>
    intro p h
    simp only [List.length_cons] at h
    refine Ev.step (fun k => by rw [laws_toStringS.l0, if_pos (lt_mid p a r), if_pos (by omega), List.length_cons, List.replicate_succ, if_pos (lt_mid p _ _), rdS_mid, set_mid, next64 (by omega)]) ?_
    have := ih (p ++ [a]) (by simp; omega)
    rw [← snoc_app, lenS_snoc, List.append_assoc] at this
    exact this
theorem toStr (l : List ByteArray) (h : l.length ≤ 17592186044416) : Ev (fun k => laws_toStringS.f k l) l := by
  unfold laws_toStringS.f
  simp only [if_pos (show (0 : Int) ≤ (l.length : Int) by omega), Int.toNat_natCast, if_pos h]
  exact toStr_l0 l.length (by omega) l [] (by simp)
theorem szStr_l0 (N : Nat) (hN : N ≤ 1048576) (r : List ByteArray) : ∀ (p : List ByteArray) (x : Int), p.length + r.length = N → 0 ≤ x → x ≤ 1048576 → (∀ s ∈ r, s.size ≤ 9223372036854775807) →
    ∃ v, Ev (fun k => laws_szStringS.l0 k (p ++ r) x (p.length : Int)) v ∧ -1 ≤ v ∧ v ≤ 1048576 := by
  induction r with
  | nil => intro p x h h0 h1 _; exact ⟨x, Ev.step (fun k => by rw [laws_szStringS.l0, if_neg (not_lt_end p)]) (Ev.now _), by omega, by omega⟩
  | cons a r ih =>
    intro p x h h0 h1 hs
    simp only [List.length_cons] at h
    have ha := hs a (by simp)
    by_cases g : x - (a.size : Int) < 0
    · refine ⟨-1, Ev.step (fun k => by rw [laws_szStringS.l0, if_pos (lt_mid p a r), if_pos (by omega), rdS_mid, wrap64_id (n := x - (a.size : Int)) (by omega) (by omega), if_pos g]) (Ev.now _), by omega, by omega⟩
    · obtain ⟨v, e, b0, b1⟩ := ih (p ++ [a]) (x - (a.size : Int)) (by simp; omega) (by omega) (by omega) (fun s h => hs s (by simp [h]))
      rw [← snoc_app, lenS_snoc] at e
      exact ⟨v, Ev.step (fun k => by rw [laws_szStringS.l0, if_pos (lt_mid p a r), if_pos (by omega), rdS_mid, wrap64_id (n := x - (a.size : Int)) (by omega) (by omega), if_neg g, next64 (by omega)]) e, b0, b1⟩
theorem szStr2 (l : List ByteArray) (hl : l.length ≤ 9223372036854775807) (hs : ∀ s ∈ l, s.size ≤ 9223372036854775807) : ∃ v, Ev (fun k => laws_szStringS.f k l 1048576) v ∧ (¬ v < 0 → l.length ≤ 1048576) ∧ -1 ≤ v ∧ v ≤ 1048576 := by
  unfold laws_szStringS.f
  rw [wrap64_id (n := 1048576 - (l.length : Int)) (by omega) (by omega)]
  by_cases g : 1048576 - (l.length : Int) < 0
  · exact ⟨-1, by simp only [if_pos g]; exact Ev.now _, by omega, by omega, by omega⟩
  · obtain ⟨v, e, b0, b1⟩ := szStr_l0 l.length (by omega) l [] (1048576 - (l.length : Int)) (by simp) (by omega) (by omega) hs
    exact ⟨v, by simp only [if_neg g]; exact e, by omega, b0, b1⟩
end Go.Proofs.Ytibnmnkembbgeaa.Pure
namespace Go.Proofs.Ytibnmnkembbgeaa.Pure
set_option linter.unusedVariables false
set_option linter.unusedSimpArgs false
open Go Go.RowKit Go.Proofs.Ytibnmnkembbgeaa.Q Go.Proofs.YtibnmnkembbgeaaW.PrintWords Go.Proofs.YtibnmnkembbgeaaW.PrintLast Go.Proofs.YtibnmnkembbgeaaW.PrintMore
theorem szFl (S : List ByteArray) (D : List LDty) (h1 : S.length ≤ 9223372036854775807) (h2 : ∀ s ∈ S, s.size ≤ 9223372036854775807) (h3 : D.length ≤ 9223372036854775807) (h4 : ∀ s ∈ D, s.f1.size ≤ 9223372036854775807) :
    ∃ v, Ev (fun k => laws_szFlash.f k S D 1048576) v ∧ (¬ v < 0 → S.length ≤ 1048576 ∧ D.length ≤ 1048576) := by
  unfold laws_szFlash.f
  obtain ⟨v, e, hv, v0, v1⟩ := szStr2 S h1 h2
  by_cases g : v < 0
  · exact ⟨-1, Ev.bind e (by simp only [if_pos g]; exact Ev.now _), by omega⟩
  · obtain ⟨x, e2, hx, x0, x1⟩ := szDt2 D v (by omega) v1 h3 h4
    by_cases g2 : x < 0
    · exact ⟨-1, Ev.bind e (by simp only [if_neg g]; exact Ev.bind e2 (by simp only [if_pos g2]; exact Ev.now _)), by omega⟩
    · exact ⟨x, Ev.bind e (by simp only [if_neg g]; exact Ev.bind e2 (by simp only [if_neg g2]; exact Ev.now _)), fun _ => ⟨hv g, hx g2⟩⟩
theorem toFl (S : List ByteArray) (D : List LDty) (h1 : S.length ≤ 1048576) (h2 : D.length ≤ 1048576) : Ev (fun k => laws_toFlash.f k S D) (S, D.map dtyOf) := by
  unfold laws_toFlash.f
  exact Ev.bind (toStr S (by omega)) (Ev.bind (toDt D (by omega)) (Ev.now _))
theorem eqFl (S : List ByteArray) (D : List Dty) (h1 : S.length < 9223372036854775807) (h2 : D.length < 9223372036854775807) : Ev (fun k => laws_eqFlash.f k S D S D) true := by
  unfold laws_eqFlash.f
  refine Ev.bind (eqStr S h1) ?_
  simp only [if_true]
  exact Ev.bind (eqDt D h2) (by simp only [if_true]; exact Ev.now _)
theorem markFl (S : List ByteArray) (D : List Dty) (m : Int) (h1 : S.length ≤ 10000000) (h2 : D.length ≤ 10000000) (h0 : 0 ≤ m) (hm : m ≤ 1000000000) : Ev (fun k => laws_markFlash.f k S D m) (m + S.length + 2 * D.length, marksT m S.length, marksDt (m + S.length) D.length) := by
  unfold laws_markFlash.f
  exact Ev.bind (markStr S m (by omega) h0 (by omega)) (Ev.bind (markDty D (m + S.length) (by omega) (by omega) (by omega)) (Ev.now _))
theorem heldFl (n d : Nat) (m : Int) (h1 : n ≤ 10000000) (h2 : d ≤ 10000000) (h0 : 0 ≤ m) (hm : m ≤ 1000000000) : Ev (fun k => laws_heldFlash.f k (marksT m n) (marksDt (m + n) d) m) (m + n + 2 * d) := by
  unfold laws_heldFlash.f
  refine Ev.bind (heldStr n m (by omega) h0 (by omega)) ?_
  simp only [if_neg (show ¬ m + (n : Int) < 0 by omega)]
  refine Ev.bind (heldDty d (m + n) (by omega) (by omega) (by omega)) ?_
  simp only [if_neg (show ¬ m + (n : Int) + 2 * (d : Int) < 0 by omega)]
  exact Ev.now _
end Go.Proofs.Ytibnmnkembbgeaa.Pure
namespace Go.Proofs.Ytibnmnkembbgeaa.Pure
set_option linter.unusedVariables false
set_option linter.unusedSimpArgs false
open Go Go.RowKit Go.Proofs.Ytibnmnkembbgeaa.Q Go.Proofs.YtibnmnkembbgeaaW.PrintWords Go.Proofs.YtibnmnkembbgeaaW.PrintLast Go.Proofs.YtibnmnkembbgeaaW.PrintMore

theorem toInt_l0 (N : Nat) (hN : N < 9223372036854775807) (r : List Int) : ∀ p : List Int, p.length + r.length = N →
    Ev (fun k => laws_toInt64S.l0 k (p ++ r) (p ++ List.replicate r.length 0) (p.length : Int)) (p ++ r) := by
  induction r with
  | nil => intro p h; exact Ev.step (fun k => by rw [laws_toInt64S.l0, if_neg (not_lt_end p)]) (by simpa using Ev.now _)
  | cons a r ih =>
    intro p h
    simp only [List.length_cons] at h
    have := ih (p ++ [a]) (by simp; omega)
    simp only [← snoc_app, List.length_append, List.length_singleton] at this
    refine Ev.step (fun k => ?_) this
    rw [laws_toInt64S.l0, if_pos (lt_mid p a r), if_pos (by omega), List.length_cons, List.replicate_succ, if_pos (lt_mid p _ _), rd_mid, set_mid, next64 (by omega)]
theorem toInt (l : List Int) (h : l.length * 8 ≤ 140737488351232) : Ev (fun k => laws_toInt64S.f k l) l := by
  unfold laws_toInt64S.f
  simp only [Int.toNat_natCast, if_pos (show (0 : Int) ≤ (l.length : Int) by omega), if_pos (show l.length ≤ 35184372088832 by omega)]
  simpa using toInt_l0 l.length (by omega) l [] (by simp)
theorem eqInt_l0 (N : Nat) (hN : N < 9223372036854775807) (r : List Int) : ∀ p : List Int, p.length + r.length = N →
    Ev (fun k => laws_eqInt64S.l0 k (p ++ r) (p ++ r) (p.length : Int)) true := by
  induction r with
  | nil => intro p h; exact Ev.step (fun k => by rw [laws_eqInt64S.l0, if_neg (not_lt_end p)]) (Ev.now _)
  | cons a r ih =>
    intro p h
    simp only [List.length_cons] at h
    have := ih (p ++ [a]) (by simp; omega)
    simp only [← snoc_app, List.length_append, List.length_singleton] at this
    refine Ev.step (fun k => ?_) this
    rw [laws_eqInt64S.l0, if_pos (lt_mid p a r), if_pos (by omega), if_pos (lt_mid p a r), if_pos rfl, next64 (by omega)]
theorem eqInt (l : List Int) (h : l.length < 9223372036854775807) : Ev (fun k => laws_eqInt64S.f k l l) true := by
  unfold laws_eqInt64S.f
  simp only [if_true]
  simpa using eqInt_l0 l.length h l [] (by simp)
def marks : Int → Nat → List Int
  | _, 0 => []
  | m, n + 1 => m :: marks (m + 1) n
theorem markInt_l0 (N : Nat) (hN : N < 1000000000000000000) (r : List Int) : ∀ (p : List Int) (m : Int), p.length + r.length = N → 0 ≤ m → m + r.length ≤ 4000000000000000000 →
    Ev (fun k => laws_markInt64S.l0 k (p ++ r) m (p.length : Int)) (m + r.length, p ++ marks m r.length) := by
  induction r with
  | nil =>
    intro p m h h0 h1
    refine Ev.step (f := fun _ => some (m + (([] : List Int).length : Int), p ++ marks m ([] : List Int).length)) (fun k => ?_) (Ev.now _)
    rw [laws_markInt64S.l0, if_neg (not_lt_end p)]; simp [marks]
  | cons a r ih =>
    intro p m h h0 h1
    simp only [List.length_cons] at h h1
    have := ih (p ++ [m]) (m + 1) (by simp; omega) (by omega) (by omega)
    simp only [← snoc_app, List.length_append, List.length_singleton] at this
    rw [show (m + ((a :: r).length : Int), p ++ marks m (a :: r).length) = (m + 1 + (r.length : Int), p ++ m :: marks (m + 1) r.length) from by simp [marks]; omega]
    refine Ev.step (fun k => ?_) this
    rw [laws_markInt64S.l0, if_pos (lt_mid p a r), if_pos (by omega), set_mid, next64 (by omega), wrap64_id (n := m + 1) (by omega) (by omega)]
theorem markInt (l : List Int) (m : Int) (h : l.length < 1000000000000000000) (h0 : 0 ≤ m) (h1 : m + l.length ≤ 4000000000000000000) : Ev (fun k => laws_markInt64S.f k l m) (m + l.length, marks m l.length) := by
  unfold laws_markInt64S.f
  simpa using markInt_l0 l.length h l [] m (by simp) h0 h1
end Go.Proofs.Ytibnmnkembbgeaa.Pure
namespace Go.Proofs.Ytibnmnkembbgeaa.Pure
set_option linter.unusedVariables false
set_option linter.unusedSimpArgs false
open Go Go.RowKit Go.Proofs.Ytibnmnkembbgeaa.Q Go.Proofs.Ytibnmnkembbgeaa.Open Go.Proofs.YtibnmnkembbgeaaW.PrintWords Go.Proofs.YtibnmnkembbgeaaW.PrintLast Go.Proofs.YtibnmnkembbgeaaW.PrintMore
theorem FnExactFlashCrash : ∀ (S : List ByteArray) (D0 : List LDty) (l : List Int), (okList okStr S ∧ okList (fun x : LDty => okInt .i64 x.f0 ∧ okStr x.f1) D0) → okList (okInt .i64) l → ∃ k, laws_FnExactFlashCrash.f k S D0 l = some true := by
  intro S D0 l ⟨ok1, ok2⟩ okl
  refine Ev.rounds ?_
  have hM : maxLen ≤ 9223372036854775807 := by decide
  obtain ⟨v, e, hv⟩ := szFl S D0 (Nat.le_trans ok1.1 hM) (fun s hs => Nat.le_trans (ok1.2 s hs) hM) (Nat.le_trans ok2.1 hM) (fun s hs => Nat.le_trans (ok2.2 s hs).2 hM)
  unfold laws_FnExactFlashCrash.f
  by_cases g0 : (l.length : Int) > 1048576
  · simp only [if_pos g0]; exact Ev.now _
  simp only [if_neg g0]
  refine Ev.bind e ?_
  by_cases g : v < 0
  · simp only [if_pos g]; exact Ev.now _
  · obtain ⟨hl1, hl2⟩ := hv g
    simp only [if_neg g]
    have hto := toFl S D0 (by omega) (by omega)
    have hE : (D0.map dtyOf).length = D0.length := by simp
    generalize D0.map dtyOf = D at hto hE
    have til := toInt l (by omega)
    have hi := implFlashCrash S D l okl.2 (by omega) (by omega)
    have hs := specFlashCrash S D l okl.2 (by omega) (by omega)
    have hr1 := crashF_len1 S D l
    have hr2 := crashF_len2 S D l
    refine Ev.bind hto (Ev.bind til (Ev.bind hs (Ev.bind hto (Ev.bind til (Ev.bind1 hi ?_)))))
    generalize crashF S D l = R at hi hs hr1 hr2 ⊢
    refine Ev.bind (eqFl R.1 R.2 (by omega) (by omega)) ?_
    simp only [if_true]
    refine Ev.bind hto (Ev.bind (eqFl S D (by omega) (by omega)) ?_)
    simp only [if_true]
    refine Ev.bind til (Ev.bind (eqInt l (by omega)) ?_)
    simp only [if_true]
    refine Ev.bind (markFl S D 1 (by omega) (by omega) (by omega) (by omega)) (Ev.bind (markInt l (1 + S.length + 2 * D.length) (by omega) (by omega) (by omega)) ?_)
    simp only [if_neg (show ¬ (1 + (S.length : Int) + 2 * (D.length : Int) + (l.length : Int)) < 0 by omega)]
    refine Ev.bind (eqFl R.1 R.2 (by omega) (by omega)) (Ev.step (fun k => by rw [laws_FnExactFlashCrash.j0, if_neg (by decide)]) ?_)
    refine Ev.bind (markFl R.1 R.2 1 (by omega) (by omega) (by omega) (by omega)) (Ev.bind (heldFl R.1.length R.2.length 1 (by omega) (by omega) (by omega) (by omega)) ?_)
    simp only [if_neg (show ¬ (1 + (R.1.length : Int) + 2 * (R.2.length : Int)) < 0 by omega), if_true]
    refine Ev.bind hto (Ev.bind til (Ev.bind1 hi (Ev.bind (eqFl R.1 R.2 (by omega) (by omega)) ?_)))
    simp only [if_true]
    refine Ev.bind (heldFl R.1.length R.2.length 1 (by omega) (by omega) (by omega) (by omega)) ?_
    simp only [if_neg (show ¬ (1 + (R.1.length : Int) + 2 * (R.2.length : Int)) < 0 by omega), if_true]
    exact Ev.now _
end Go.Proofs.Ytibnmnkembbgeaa.Pure
