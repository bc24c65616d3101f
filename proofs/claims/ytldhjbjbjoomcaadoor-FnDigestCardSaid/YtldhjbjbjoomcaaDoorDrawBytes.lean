/- A draw of a text answers, and the text is as long as was asked for. Conditions: sources of at most 2^20 bytes. -/
import Derived.Test.YtldhjbjbjoomcaaDoorDrawN
import Derived.Test.YtldhjbjbjoomcaaDoorQx5
namespace Go.Proofs.YtldhjbjbjoomcaaDoor.Pure
set_option linter.unusedVariables false
set_option linter.unusedSimpArgs false
open Go Go.RowKit Go.Proofs.YtldhjbjbjoomcaaDoor.Q Go.Proofs.YtldhjbjbjoomcaaDoorW.PrintWords Go.Proofs.YtldhjbjbjoomcaaDoorW.PrintLast Go.Proofs.YtldhjbjbjoomcaaDoorW.PrintMore
theorem draw_bytes_l0 (b : List Int) (s n : Int) (hn : n ≤ 1000000) (d : Nat) : ∀ (j : Nat) (acc : List Int) (i m : Int), (j : Int) + d = n → acc.length = j → St b i →
    ∃ r i' m', Ev (fun k => spec_l01Src_bytes.l0 k n acc (j : Int) b i m s) (r, i', m', s) ∧ St b i' ∧ (r.size : Int) = n := by
  induction d with
  | zero =>
    intro j acc i m h hl hs
    exact ⟨strOfNums acc, i, m, Ev.step (fun k => by rw [spec_l01Src_bytes.l0, if_neg (by omega)]) (Ev.now _), hs, by rw [strOfNums_size]; omega⟩
  | succ d ih =>
    intro j acc i m h hl hs
    obtain ⟨r, i', m', e, h', _⟩ := draw_n b i m s 256 hs (by omega)
    obtain ⟨r2, i2, m2, e2, h2, b2⟩ := ih (j + 1) (acc ++ [r % 256]) i' m' (by omega) (by simp; omega) h'
    refine ⟨r2, i2, m2, Ev.step (fun k => by rw [spec_l01Src_bytes.l0, if_pos (by omega), e, next64 (by omega)]) ?_, h2, b2⟩
    simp only [Option.bind_some, if_pos (show acc.length < 140737488355328 by omega)]
    exact e2
theorem draw_bytes (b : List Int) (i m s n : Int) (hn0 : 0 ≤ n) (hn : n ≤ 1000000) (hs : St b i) :
    ∃ r i' m', Ev (fun k => spec_l01Src_bytes.f k b i m s n) (r, i', m', s) ∧ St b i' ∧ (r.size : Int) = n := by
  unfold spec_l01Src_bytes.f
  exact draw_bytes_l0 b s n hn n.toNat 0 [] i m (by omega) (by simp) hs
end Go.Proofs.YtldhjbjbjoomcaaDoor.Pure
