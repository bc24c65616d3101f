/- A draw of any number answers with a number of 64 bits. Conditions: sources of at most 2^20 bytes. -/
import Derived.Test.YtbjcancgkfaapaaDrawOne
import Derived.Test.YtbjcancgkfaapaaDrawEdge
import Derived.Test.YtbjcancgkfaapaaQx7
namespace Go.Proofs.Ytbjcancgkfaapaa.Pure
set_option linter.unusedVariables false
set_option linter.unusedSimpArgs false
open Go Go.RowKit Go.Proofs.Ytbjcancgkfaapaa.Q Go.Proofs.YtbjcancgkfaapaaW.PrintWords Go.Proofs.YtbjcancgkfaapaaW.PrintLast Go.Proofs.YtbjcancgkfaapaaW.PrintMore
theorem draw_any (b : List Int) (i m s : Int) (h : St b i) : ∃ r i' m', spec_l01Src_l01Any.f b i m s = some (r, i', m', s) ∧ St b i' ∧ -9223372036854775808 ≤ r ∧ r ≤ 9223372036854775807 := by
  unfold spec_l01Src_l01Any.f
  obtain ⟨r1, i1, m1, e1, s1⟩ := draw_one b i m s 4 h (by omega)
  simp only [e1, Option.bind_some]
  by_cases g : r1 = true
  · obtain ⟨r2, i2, m2, e2, s2, a, c⟩ := draw_edge b i1 m1 s s1
    simp only [if_pos g, e2, Option.bind_some]
    exact ⟨_, _, _, rfl, s2, a, c⟩
  · obtain ⟨r2, i2, m2, e2, s2, a, _, c⟩ := draw_n b i1 m1 s 1099511627776 s1 (by omega)
    have c := c (by omega)
    simp only [if_neg g, e2, Option.bind_some]
    exact ⟨_, _, _, rfl, s2, by rw [wrap64_id (by omega) (by omega)]; omega, by rw [wrap64_id (by omega) (by omega)]; omega⟩
end Go.Proofs.Ytbjcancgkfaapaa.Pure
