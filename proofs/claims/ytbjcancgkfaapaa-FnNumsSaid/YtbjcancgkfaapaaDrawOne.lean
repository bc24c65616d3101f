/- A draw of a truth answers. Conditions: sources of at most 2^20 bytes. -/
import Derived.Test.YtbjcancgkfaapaaDrawN
import Derived.Test.YtbjcancgkfaapaaQx4
namespace Go.Proofs.Ytbjcancgkfaapaa.Pure
set_option linter.unusedVariables false
set_option linter.unusedSimpArgs false
open Go Go.RowKit Go.Proofs.Ytbjcancgkfaapaa.Q Go.Proofs.YtbjcancgkfaapaaW.PrintWords Go.Proofs.YtbjcancgkfaapaaW.PrintLast Go.Proofs.YtbjcancgkfaapaaW.PrintMore
theorem draw_one (b : List Int) (i m s a : Int) (h : St b i) (ha : a ≤ 9223372036854775807) :
    ∃ r i' m', spec_l01Src_one.f b i m s a = some (r, i', m', s) ∧ St b i' := by
  obtain ⟨r, i', m', e, h', _⟩ := draw_n b i m s a h ha
  unfold spec_l01Src_one.f
  rw [e]
  exact ⟨_, _, _, rfl, h'⟩
end Go.Proofs.Ytbjcancgkfaapaa.Pure
