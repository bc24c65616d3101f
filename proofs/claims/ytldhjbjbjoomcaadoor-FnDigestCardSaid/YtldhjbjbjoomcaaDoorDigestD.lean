/- The draw of the digest's law answers, and its text is short. -/
import Derived.Test.YtldhjbjbjoomcaaDoorDrawBytes
import Derived.Test.YtldhjbjbjoomcaaDoorQx5
namespace Go.Proofs.YtldhjbjbjoomcaaDoor.Pure
set_option linter.unusedVariables false
set_option linter.unusedSimpArgs false
open Go Go.RowKit Go.Proofs.YtldhjbjbjoomcaaDoor.Q Go.Proofs.YtldhjbjbjoomcaaDoorW.PrintWords Go.Proofs.YtldhjbjbjoomcaaDoorW.PrintLast Go.Proofs.YtldhjbjbjoomcaaDoorW.PrintMore
theorem draw_digest (l : List Int) (h : l.length ≤ 1048576) : ∃ k t, spec_DrawDigest.f k l = some t ∧ t.size ≤ 8000 := by
  obtain ⟨m, s, _, _, hs, e⟩ := draw_source l h
  obtain ⟨r, i1, m1, e1, h1, a1, _, c1⟩ := draw_n l 0 m s 200 hs (by omega)
  have c := c1 (by omega)
  obtain ⟨t, i2, m2, e2, h2, z⟩ := draw_bytes l i1 m1 s r a1 (by omega) h1
  obtain ⟨k, hk⟩ : ∃ k, spec_DrawDigest.f k l = some t := by
    have ev : Ev (fun k => spec_DrawDigest.f k l) t := by
      unfold spec_DrawDigest.f
      refine Ev.bind e ?_
      simp only [e1, Option.bind_some]
      refine Ev.bind e2 (Ev.now _)
    obtain ⟨k0, hk⟩ := ev
    exact ⟨k0, hk k0 (Nat.le_refl _)⟩
  exact ⟨k, t, hk, by omega⟩
end Go.Proofs.YtldhjbjbjoomcaaDoor.Pure
