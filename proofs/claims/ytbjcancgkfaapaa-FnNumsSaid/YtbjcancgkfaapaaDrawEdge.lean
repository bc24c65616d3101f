/- A draw of a number at some limit answers. Conditions: sources of at most 2^20 bytes. -/
import Derived.Test.YtbjcancgkfaapaaDrawN
import Derived.Test.YtbjcancgkfaapaaQx6
namespace Go.Proofs.Ytbjcancgkfaapaa.Pure
set_option linter.unusedVariables false
set_option linter.unusedSimpArgs false
open Go Go.RowKit Go.Proofs.Ytbjcancgkfaapaa.Q Go.Proofs.YtbjcancgkfaapaaW.PrintWords Go.Proofs.YtbjcancgkfaapaaW.PrintLast Go.Proofs.YtbjcancgkfaapaaW.PrintMore
theorem edges_range : ∀ x ∈ ([0, 1, (-1), 2, 1000, 1001, 2147483648, 2147483647, (-2147483648), 4611686018427387904, 9223372036854775807, (-9223372036854775808), 1000000, 1000001] : List Int), -9223372036854775808 ≤ x ∧ x ≤ 9223372036854775807 := by decide
theorem draw_edge (b : List Int) (i m s : Int) (h : St b i) : ∃ r i' m', spec_l01Src_edge.f b i m s = some (r, i', m', s) ∧ St b i' ∧ -9223372036854775808 ≤ r ∧ r ≤ 9223372036854775807 := by
  unfold spec_l01Src_edge.f
  obtain ⟨r, i', m', e, h', b0, b1, b2⟩ := draw_n b i m s 14 h (by omega)
  have b2 := b2 (by omega)
  simp only [Option.bind_some, e]
  rw [if_pos b0, if_pos (by simp only [List.length_cons, List.length_nil]; omega)]
  refine ⟨_, _, _, rfl, h', edges_range _ ?_⟩
  have hl : r.toNat < ([0, 1, (-1), 2, 1000, 1001, 2147483648, 2147483647, (-2147483648), 4611686018427387904, 9223372036854775807, (-9223372036854775808), 1000000, 1000001] : List Int).length := by simp only [List.length_cons, List.length_nil]; omega
  rw [rd, List.getD_eq_getElem?_getD, List.getElem?_eq_getElem hl, Option.getD_some]
  exact List.getElem_mem _
end Go.Proofs.Ytbjcancgkfaapaa.Pure
