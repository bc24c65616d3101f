/- The source of draws: its making, and one number out of it, which is below what was asked for. Conditions: sources of at most 2^20 bytes. -/
import Derived.Test.YtldhjbjbjoomcaaDoorInts0
import Derived.Test.YtldhjbjbjoomcaaDoorQx4
import Derived.Test.YtldhjbjbjoomcaaDoorQx5
namespace Go.Proofs.YtldhjbjbjoomcaaDoor.Pure
set_option linter.unusedVariables false
set_option linter.unusedSimpArgs false
open Go Go.RowKit Go.Proofs.YtldhjbjbjoomcaaDoor.Q Go.Proofs.YtldhjbjbjoomcaaDoorW.PrintWords Go.Proofs.YtldhjbjbjoomcaaDoorW.PrintLast Go.Proofs.YtldhjbjbjoomcaaDoorW.PrintMore
/-- Where a source stands in its bytes. -/
def St (b : List Int) (i : Int) : Prop := 0 ≤ i ∧ i ≤ b.length ∧ b.length ≤ 1048576
theorem out_range (v m a : Int) (ha : 1 < a) (h : a ≤ 9223372036854775807) : 0 ≤ spec_l01Src_n.out v m a ∧ spec_l01Src_n.out v m a < a := by
  unfold spec_l01Src_n.out
  have h0 : 0 ≤ IntKind.u64.wrap (v + m / 1048576) := by rw [wrap_u64]; omega
  rw [wrap_u64_id (n := a) (by omega) (by omega)]
  generalize IntKind.u64.wrap (v + m / 1048576) = x at h0
  have h1 : 0 ≤ Int.tmod x a := Int.tmod_nonneg _ h0
  have h2 : Int.tmod x a < a := Int.tmod_lt_of_pos _ (by omega)
  rw [wrap64_id (by omega) (by omega)]
  exact ⟨h1, h2⟩
theorem draw_n (b : List Int) (i m s a : Int) (h : St b i) (ha : a ≤ 9223372036854775807) :
    ∃ r i' m', spec_l01Src_n.f b i m s a = some (r, i', m', s) ∧ St b i' ∧ 0 ≤ r ∧ (a ≤ 1 → r = 0) ∧ (1 < a → r < a) := by
  obtain ⟨h0, h1, h2⟩ := h
  unfold spec_l01Src_n.f
  by_cases g : a ≤ 1
  · exact ⟨0, i, m, by rw [if_pos g], ⟨h0, h1, h2⟩, by omega, fun _ => rfl, fun _ => by omega⟩
  · rw [if_neg g, if_neg (by rw [wrap_u64_id (by omega) (by omega)]; omega)]
    by_cases g2 : i < (b.length : Int)
    · have := out_range (IntKind.u64.wrap (rd b i)) (spec_l01Src_n.mix m) a (by omega) ha
      exact ⟨_, _, _, by rw [if_pos g2, if_pos h0, wrap64_id (by omega) (by omega)], ⟨by omega, by omega, h2⟩, this.1, fun _ => by omega, fun _ => this.2⟩
    · have := out_range 0 (spec_l01Src_n.mix m) a (by omega) ha
      exact ⟨_, _, _, by rw [if_neg g2], ⟨h0, h1, h2⟩, this.1, fun _ => by omega, fun _ => this.2⟩
theorem source_l0 (N : Nat) (hN : N ≤ 1048576) (l : List Int) (hl : l.length = N) (d : Nat) : ∀ (i : Nat) (m : Int), i + d = N → ∃ m' s', 0 ≤ s' ∧ s' ≤ 12 ∧ Ev (fun k => spec_l01Source.l0 k l (i : Int) l 0 m 0) (l, 0, m', s') := by
  have fin : ∀ m : Int, ∃ m' s', 0 ≤ s' ∧ s' ≤ 12 ∧ Ev (fun _ => (if (wrap64 ((l.length : Int) / 20)) > 12 then (some (l, (0 : Int), m, (12 : Int))) else (some (l, 0, m, wrap64 ((l.length : Int) / 20))))) (l, 0, m', s') := by
    intro m
    rw [wrap64_id (by omega) (by omega)]
    by_cases g : (l.length : Int) / 20 > 12
    · exact ⟨m, 12, by omega, by omega, by rw [if_pos g]; exact Ev.now _⟩
    · exact ⟨m, (l.length : Int) / 20, by omega, by omega, by rw [if_neg g]; exact Ev.now _⟩
  induction d with
  | zero =>
    intro i m h
    obtain ⟨m', s', a, b, e⟩ := fin m
    exact ⟨m', s', a, b, Ev.step (fun k => by rw [spec_l01Source.l0, if_neg (by omega)]) e⟩
  | succ d ih =>
    intro i m h
    by_cases g : (i : Int) < 64
    · obtain ⟨m', s', a, b, e⟩ := ih (i + 1) (IntKind.u64.wrap ((Go.bits .xor .u64 m (IntKind.u64.wrap (rd l (i : Int)))) * 1099511628211)) (by omega)
      exact ⟨m', s', a, b, Ev.step (fun k => by rw [spec_l01Source.l0, if_pos (by omega), if_pos g, if_pos (by omega), next64 (by omega)]) e⟩
    · obtain ⟨m', s', a, b, e⟩ := fin m
      exact ⟨m', s', a, b, Ev.step (fun k => by rw [spec_l01Source.l0, if_pos (by omega), if_neg g]) e⟩
theorem draw_source (l : List Int) (h : l.length ≤ 1048576) : ∃ m s, 0 ≤ s ∧ s ≤ 12 ∧ St l 0 ∧ Ev (fun k => spec_l01Source.f k l) (l, 0, m, s) := by
  obtain ⟨m, s, a, b, e⟩ := source_l0 l.length h l rfl l.length 0 88172645463325252 (by omega)
  exact ⟨m, s, a, b, ⟨by omega, by omega, h⟩, e⟩
end Go.Proofs.YtldhjbjbjoomcaaDoor.Pure
