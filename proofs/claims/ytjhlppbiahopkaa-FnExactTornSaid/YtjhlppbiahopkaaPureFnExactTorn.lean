/- The program's Torn and the reference's Torn return the same text, for all texts and every fate. -/
import Derived.Test.YtjhlppbiahopkaaBase
import Derived.Test.YtjhlppbiahopkaaQx5
namespace Go.Proofs.Ytjhlppbiahopkaa.Pure
open Go Go.RowKit Go.Proofs.Ytjhlppbiahopkaa.Q Go.Proofs.YtjhlppbiahopkaaW.PrintWords Go.Proofs.YtjhlppbiahopkaaW.PrintLast Go.Proofs.YtjhlppbiahopkaaW.PrintMore
/-- What is left of a sector. -/
def tornM (o f : ByteArray) (t : Int) : ByteArray := if t < 1 then o else if t = 1 then f else f.extract 0 (min (t - 2).toNat f.size)
theorem implTorn (o f : ByteArray) (t : Int) (hf : f.size ≤ 140737488351232) (ht : (Lit.int .i64 t).wf = true) : impl_torn.f o f t = some (tornM o f t) := by
  obtain ⟨h0, h1⟩ := i64_of_wf ht
  unfold impl_torn.f tornM
  by_cases a : t < 1
  · rw [if_pos a, if_pos a]
  · rw [if_neg a, if_neg a]
    by_cases b : t = 1
    · rw [if_pos b, if_pos b]
    · rw [if_neg b, if_neg b, wrap64_id (by omega) (by omega)]
      have e : mn (t - 2) (f.size : Int) = ((min (t - 2).toNat f.size : Nat) : Int) := by unfold mn; split <;> omega
      rw [e, if_pos (by omega), if_pos (by omega), Int.toNat_natCast]
theorem specTorn (o f : ByteArray) (t : Int) (hf : f.size ≤ 140737488351232) (ht : (Lit.int .i64 t).wf = true) : Ev (fun k => spec_Torn.f k o f t) (if (o.size : Int) > 8000 ∨ (f.size : Int) > 8000 then ⟨#[]⟩ else tornM o f t) := by
  obtain ⟨h0, h1⟩ := i64_of_wf ht
  unfold spec_Torn.f
  by_cases a : (o.size : Int) > 8000
  · simp only [if_pos a, if_pos (show (o.size : Int) > 8000 ∨ (f.size : Int) > 8000 from .inl a)]
    exact Ev.step (fun k => by rw [spec_Torn.j0, if_pos rfl, if_pos a]) (Ev.now _)
  · simp only [if_neg a]
    by_cases b : (f.size : Int) > 8000
    · simp only [if_pos b, if_pos (show (o.size : Int) > 8000 ∨ (f.size : Int) > 8000 from .inr b)]
      exact Ev.step (fun k => by rw [spec_Torn.j0, if_pos rfl, if_neg a, if_pos b]) (Ev.now _)
    · simp only [if_neg b, if_neg (show ¬ ((o.size : Int) > 8000 ∨ (f.size : Int) > 8000) by omega)]
      refine Ev.step (f := fun _ => some (tornM o f t)) (fun k => ?_) (Ev.now _)
      rw [spec_Torn.j0]
      unfold tornM
      by_cases c : t < 1
      · rw [if_pos (by simpa using c), if_neg a, if_neg b, if_pos c]
      · rw [if_neg (by simpa using c), if_neg c]
        by_cases d : t = 1
        · rw [if_pos d, if_pos d]
        · rw [if_neg d, if_neg d, wrap64_id (by omega) (by omega)]
          by_cases e : t - 2 > (f.size : Int)
          · rw [if_pos e, if_pos (by omega), if_pos (by omega), Int.toNat_natCast, show min (t - 2).toNat f.size = f.size by omega]
          · rw [if_neg e, if_pos (by omega), if_pos (by omega), show min (t - 2).toNat f.size = (t - 2).toNat by omega]
theorem FnExactTorn : laws_FnExactTorn.Pure := by
  intro o f t ho hf ht
  refine Ev.rounds ?_
  unfold laws_FnExactTorn.f impl_Torn.f
  by_cases a : (o.size : Int) > 1048576
  · simp only [if_pos a]; exact Ev.now _
  · simp only [if_neg a]
    by_cases b : (f.size : Int) > 1048576
    · simp only [if_pos b]; exact Ev.now _
    · simp only [if_neg b]
      refine Ev.bind (specTorn o f t hf ht) (Ev.bind1 (a := if (o.size : Int) > 8000 ∨ (f.size : Int) > 8000 then ⟨#[]⟩ else tornM o f t) ?_ ?_)
      · rw [implTorn o f t hf ht]
        by_cases c : (o.size : Int) > 8000
        · rw [if_pos c, if_pos (.inl c)]
        · rw [if_neg c]
          by_cases d : (f.size : Int) > 8000
          · rw [if_pos d, if_pos (.inr d)]
          · rw [if_neg d, if_neg (by omega)]; rfl
      · simp only [if_true]; exact Ev.now _
end Go.Proofs.Ytjhlppbiahopkaa.Pure
