/- What is written is read, no other sector is turned; what is synced stays when the power goes; an unsynced sector is then what it was, what was written, or a beginning of it; for every draw. Part 6. -/
import Derived.Test.YtboobfpmmaaogaaKFnFlash5
import Derived.SizedLaws
import Derived.ChangeSlices
namespace Go.Proofs.Ytboobfpmmaaogaa.Pure
set_option linter.unusedVariables false
set_option linter.unusedSimpArgs false
open Go Go.RowKit Go.Proofs.Ytboobfpmmaaogaa.Q Go.Proofs.YtboobfpmmaaogaaW.PrintWords Go.Proofs.YtboobfpmmaaogaaW.PrintLast Go.Proofs.YtboobfpmmaaogaaW.PrintMore
def tornM (o f : ByteArray) (t : Int) : ByteArray := if t < 1 then o else if t = 1 then f else f.extract 0 (min (t - 2).toNat f.size)
theorem implTorn (o f : ByteArray) (t : Int) (hf : f.size ≤ 140737488351232) (ht : (Lit.int .i64 t).wf = true) : impl_torn.f o f t = some (tornM o f t) := by
  obtain ⟨h0, h1⟩ := i64_of_wf ht
  unfold impl_torn.f tornM
  by_cases a : t < 1
  · rw [if_pos a, if_pos a]
  · rw [if_neg a, if_neg a]
    by_cases b : t = 1
    · rw [if_pos b, if_pos b]
    · rw [if_neg b, if_neg b, wrap64_id (by omega) (by omega)]
      have e : mn (t - 2) (f.size : Int) = ((min (t - 2).toNat f.size : Nat) : Int) := by unfold mn; split <;> omega
      rw [e, if_pos (by omega), if_pos (by omega), Int.toNat_natCast]
theorem specTorn (o f : ByteArray) (t : Int) (hf : f.size ≤ 140737488351232) (ht : (Lit.int .i64 t).wf = true) : Ev (fun k => spec_Torn.f k o f t) (if (o.size : Int) > 8000 ∨ (f.size : Int) > 8000 then ⟨#[]⟩ else tornM o f t) := by
  obtain ⟨h0, h1⟩ := i64_of_wf ht
  unfold spec_Torn.f
  by_cases a : (o.size : Int) > 8000
  · simp only [if_pos a, if_pos (show (o.size : Int) > 8000 ∨ (f.size : Int) > 8000 from .inl a)]
    exact Ev.step (fun k => by rw [spec_Torn.j0, if_pos rfl, if_pos a]) (Ev.now _)
  · simp only [if_neg a]
    by_cases b : (f.size : Int) > 8000
    · simp only [if_pos b, if_pos (show (o.size : Int) > 8000 ∨ (f.size : Int) > 8000 from .inr b)]
      exact Ev.step (fun k => by rw [spec_Torn.j0, if_pos rfl, if_neg a, if_pos b]) (Ev.now _)
    · simp only [if_neg b, if_neg (show ¬ ((o.size : Int) > 8000 ∨ (f.size : Int) > 8000) by omega)]
      refine Ev.step (f := fun _ => some (tornM o f t)) (fun k => ?_) (Ev.now _)
      rw [spec_Torn.j0]
      unfold tornM
      by_cases c : t < 1
      · rw [if_pos (by simpa using c), if_neg a, if_neg b, if_pos c]
      · rw [if_neg (by simpa using c), if_neg c]
        by_cases d : t = 1
        · rw [if_pos d, if_pos d]
        · rw [if_neg d, if_neg d, wrap64_id (by omega) (by omega)]
          by_cases e : t - 2 > (f.size : Int)
          · rw [if_pos e, if_pos (by omega), if_pos (by omega), Int.toNat_natCast, show min (t - 2).toNat f.size = f.size by omega]
          · rw [if_neg e, if_pos (by omega), if_pos (by omega), show min (t - 2).toNat f.size = (t - 2).toNat by omega]
def fateM (l : List Int) (i : Int) : Int := if i < (l.length : Int) then rd l i else 0
def crashM (l : List Int) : List Dty → Int → List ByteArray → List ByteArray
  | [], _, S => S
  | x :: r, i, S => crashM l r (i + 1) (S.set x.f0.toNat (tornM (rdOf ByteArray.empty S x.f0) x.f1 (fateM l i)))
theorem crashM_length (l : List Int) : ∀ (D : List Dty) (i : Int) (S : List ByteArray), (crashM l D i S).length = S.length := by
  intro D
  induction D with
  | nil => intro i S; rfl
  | cons x r ih => intro i S; rw [crashM, ih, List.length_set]
theorem rd_wf (l : List Int) (h : ∀ x ∈ l, (Lit.int .i64 x).wf = true) (i : Int) : (Lit.int .i64 (rd l i)).wf = true := by
  unfold rd
  rw [List.getD_eq_getElem?_getD]
  by_cases g : i.toNat < l.length
  · rw [List.getElem?_eq_getElem g]; exact h _ (List.getElem_mem g)
  · rw [List.getElem?_eq_none (by omega)]; decide
theorem fate_wf (l : List Int) (h : ∀ x ∈ l, (Lit.int .i64 x).wf = true) (i : Int) : (Lit.int .i64 (fateM l i)).wf = true := by
  unfold fateM; split
  · exact rd_wf l h i
  · decide
theorem implCrashed (l : List Int) (h : ∀ x ∈ l, (Lit.int .i64 x).wf = true) : ∀ (D : List Dty) (i : Int) (S : List ByteArray), (∀ x ∈ D, x.f1.size ≤ 96) → impl_Flash_crashed l D i S = some (crashM l D i S) := by
  intro D
  induction D with
  | nil => intro i S _; rfl
  | cons x r ih =>
    intro i S hs
    rw [impl_Flash_crashed, crashM]
    have e := implTorn (rdOf ByteArray.empty S x.f0) x.f1 (fateM l i) (by have := hs x (by simp); omega) (fate_wf l h i)
    unfold fateM at e ⊢
    rw [e, Option.bind_some]
    exact ih _ _ (fun y hy => hs y (by simp [hy]))
theorem dirtM_size (n : Int) : ∀ (r p : List Dty), dirtM n p r = true → ∀ x ∈ r, x.f1.size ≤ 96 := by
  intro r
  induction r with
  | nil => intro p _ x hx; cases hx
  | cons y r ih =>
    intro p h x hx
    rw [dirtM] at h
    by_cases g : impl_isFlash.has n y.f0 = true
    · rw [if_pos g] at h
      by_cases g2 : (y.f1.size : Int) > 96
      · rw [if_pos g2] at h; cases h
      · rw [if_neg g2] at h
        split at h
        · cases h
        · rcases List.mem_cons.1 hx with rfl | hx
          · omega
          · exact ih _ h x hx
    · rw [if_neg g] at h; cases h
theorem dirtM_ne (n : Int) : ∀ (r p : List Dty), dirtM n p r = true → ∀ y ∈ r, ∀ x ∈ p, x.f0 ≠ y.f0 := by
  intro r
  induction r with
  | nil => intro p _ y hy; cases hy
  | cons z r ih =>
    intro p h y hy x hx
    rw [dirtM] at h
    by_cases g : impl_isFlash.has n z.f0 = true
    · rw [if_pos g] at h
      split at h
      · cases h
      · split at h
        · cases h
        · rename_i h3
          rcases List.mem_cons.1 hy with rfl | hy
          · intro e
            exact h3 (List.any_eq_true.2 ⟨x, hx, by simp [impl_Flash_dirty.is, e]⟩)
          · exact ih _ h y hy x (by simp [hx])
    · rw [if_neg g] at h; cases h
theorem dirtM_tail (n : Int) (p : List Dty) (x : Dty) (r : List Dty) (h : dirtM n p (x :: r) = true) : dirtM n (p ++ [x]) r = true := by
  rw [dirtM] at h
  split at h
  · split at h
    · cases h
    · split at h
      · cases h
      · exact h
  · cases h
theorem rdOf_set {S : List ByteArray} {a b : Int} (ha : 0 ≤ a) (hb : 0 ≤ b) (h : a ≠ b) (t : ByteArray) : rdOf ByteArray.empty (S.set a.toNat t) b = rdOf ByteArray.empty S b := by
  unfold rdOf
  rw [List.getD_eq_getElem?_getD, List.getD_eq_getElem?_getD, List.getElem?_set_ne (by omega)]
theorem specCrashed (l : List Int) (h : ∀ x ∈ l, (Lit.int .i64 x).wf = true) (hl : l.length ≤ 400) (S0 : List ByteArray) (hS0 : ∀ s ∈ S0, s.size ≤ 96) (N : Nat) (hN : N ≤ 1000000) (r : List Dty) : ∀ (p : List Dty) (S : List ByteArray), p.length + r.length = N → S.length = S0.length → dirtM S0.length p r = true →
    (∀ x ∈ r, rdOf ByteArray.empty S x.f0 = rdOf ByteArray.empty S0 x.f0) → Ev (fun k => spec_FlashCrash.l0 k l (p.length : Int) S0 (p ++ r) S) (crashM l r (p.length : Int) S, ([] : List Dty)) := by
  induction r with
  | nil => intro p S hp _ _ _; exact Ev.step (f := fun _ => some (S, ([] : List Dty))) (fun k => by rw [spec_FlashCrash.l0, if_neg (not_lt_end p)]) (Ev.now _)
  | cons x r ih =>
    intro p S hp hS hd hr
    simp only [List.length_cons] at hp
    obtain ⟨x0, x1⟩ := dirtM_at _ _ _ hd x (by simp)
    have hx1 := dirtM_size _ _ _ hd x (by simp)
    have hx := hr x (by simp)
    have hsz : (rdOf ByteArray.empty S0 x.f0).size ≤ 96 := by
      have hl2 : x.f0.toNat < S0.length := by omega
      have e : rdOf ByteArray.empty S0 x.f0 = S0[x.f0.toNat] := by simp [rdOf, hl2]
      rw [e]; exact hS0 _ (List.getElem_mem hl2)
    have hT := specTorn (rdOf ByteArray.empty S0 x.f0) x.f1 (fateM l (p.length : Int)) (by omega) (fate_wf l h _)
    rw [if_neg (by omega)] at hT
    have hd2 := dirtM_tail _ _ _ _ hd
    have hne := dirtM_ne _ _ _ hd2
    have ih' := ih (p ++ [x]) (S.set x.f0.toNat (tornM (rdOf ByteArray.empty S0 x.f0) x.f1 (fateM l (p.length : Int)))) (by simp; omega) (by rw [List.length_set]; exact hS) hd2 (fun y hy => by
      have hy0 := (dirtM_at _ _ _ hd y (by simp [hy])).1
      rw [rdOf_set x0 hy0 (hne y hy x (by simp))]
      exact hr y (by simp [hy]))
    rw [← snoc_app, lenS_snoc] at ih'
    rw [crashM, hx, show (p.length : Int) + 1 = ((p.length + 1 : Nat) : Int) by omega]
    unfold fateM at hT ih' ⊢
    refine Ev.step (fun k => by rw [spec_FlashCrash.l0, if_pos (lt_mid p x r), rdD_mid, next64 (by omega)]) ?_
    simp only [if_pos (show (0 : Int) ≤ (p.length : Int) by omega), if_pos x0, if_pos (show x.f0 < (S0.length : Int) by omega), if_pos (show x.f0 < (S.length : Int) by omega)]
    by_cases g : (p.length : Int) < (l.length : Int)
    · simp only [if_pos g] at hT ih' ⊢
      exact Ev.bind hT ih'
    · simp only [if_neg g] at hT ih' ⊢
      exact Ev.bind hT ih'
def crashF (S : List ByteArray) (D : List Dty) (l : List Int) : List ByteArray × List Dty := if (l.length : Int) > 400 then ([], []) else if flashM S D = true then (crashM l D 0 S, []) else (S, D)
theorem crashF_len1 (S : List ByteArray) (D : List Dty) (l : List Int) : (crashF S D l).1.length ≤ S.length := by
  unfold crashF; split
  · simp
  · split
    · rw [crashM_length]; exact Nat.le_refl _
    · exact Nat.le_refl _
theorem crashF_len2 (S : List ByteArray) (D : List Dty) (l : List Int) : (crashF S D l).2.length ≤ D.length := by
  unfold crashF; split
  · simp
  · split <;> simp
theorem implClone2 (S : List ByteArray) (D : List Dty) (h1 : S.length ≤ 10000000) (h2 : D.length ≤ 10000000) : impl_cloneFlash.f S D = some (S, D) := by
  unfold impl_cloneFlash.f slices_Clone_string_string.f slices_Clone_S83.f
  rw [if_pos (by omega), Option.bind_some, if_pos (by omega), Option.bind_some]
theorem flash_dirt {S : List ByteArray} {D : List Dty} (h : flashM S D = true) : dirtM S.length [] D = true := by
  unfold flashM at h; rw [Bool.and_eq_true] at h; exact h.2
theorem flash_sizes {S : List ByteArray} {D : List Dty} (h : flashM S D = true) : ∀ s ∈ S, s.size ≤ 96 := by
  unfold flashM impl_isFlash.head at h
  simp only [Bool.and_eq_true, Bool.not_eq_true', List.any_eq_false] at h
  intro s hs
  have := h.1.2.2 s hs
  unfold impl_isFlash.long at this
  simp only [decide_eq_true_eq] at this
  omega
theorem implFlashCrash (S : List ByteArray) (D : List Dty) (l : List Int) (h : ∀ x ∈ l, (Lit.int .i64 x).wf = true) (h1 : S.length ≤ 10000000) (h2 : D.length ≤ 10000000) : impl_FlashCrash.f S D l = some (crashF S D l) := by
  unfold impl_FlashCrash.f crashF
  by_cases g0 : (l.length : Int) > 400
  · rw [if_pos g0, if_pos g0]
  · rw [if_neg g0, if_neg g0, implClone2 S D h1 h2, Option.bind_some, implFlash S D (by omega) (by omega), Option.bind_some]
    by_cases g : flashM S D = true
    · obtain ⟨hs, hd⟩ := flash_len g
      have hok : impl_FlashCrash.okD S D = true := by
        unfold impl_FlashCrash.okD
        simp only [Bool.and_eq_true, decide_eq_true_eq, List.all_eq_true]
        exact ⟨by omega, fun x hx => flash_at g x hx⟩
      rw [if_pos g, if_pos g, if_pos hok, implCrashed l h D 0 S (dirtM_size _ _ _ (flash_dirt g)), Option.bind_some]
    · rw [if_neg g, if_neg g]
theorem specFlashCrash (S : List ByteArray) (D : List Dty) (l : List Int) (h : ∀ x ∈ l, (Lit.int .i64 x).wf = true) (h1 : S.length ≤ 10000000) (h2 : D.length ≤ 10000000) : Ev (fun k => spec_FlashCrash.f k S D l) (crashF S D l) := by
  unfold spec_FlashCrash.f crashF
  by_cases g0 : (l.length : Int) > 400
  · simp only [if_pos g0]; exact Ev.now _
  · simp only [if_neg g0]
    refine Ev.bind (specFlash S D) ?_
    by_cases g : flashM S D = true
    · obtain ⟨hs, hd⟩ := flash_len g
      simp only [if_pos g, Option.bind_some, List.length_nil, List.nil_append, if_pos (show 0 + S.length < 8796093022208 by omega)]
      exact specCrashed l h (by omega) S (flash_sizes g) D.length (by omega) D [] S (by simp) rfl (flash_dirt g) (fun _ _ => rfl)
    · simp only [if_neg g, specCopy S D h1 h2, Option.bind_some]
      exact Ev.now _
abbrev Act := S90
end Go.Proofs.Ytboobfpmmaaogaa.Pure
namespace Go.Proofs.Ytboobfpmmaaogaa.Q
open Go.RowKit Go.Proofs.YtboobfpmmaaogaaW.PrintWords Go.Proofs.YtboobfpmmaaogaaW.PrintLast Go.Proofs.YtboobfpmmaaogaaW.PrintMore
attribute [local go_sem] max2_int min2_int max_two min_two max_three min_three max_four min_four Instr.field asAgg
set_option linter.unusedVariables false
set_option linter.unusedSimpArgs false
set_option maxHeartbeats 8000000
set_option maxRecDepth 100000
theorem FB.alloc {W : World} {base g : Nat} {S : List ByteArray} {D : List S83} (h : FB W base g S D) (o : Obj) : FB (W.alloc o) base g S D := FB.below h (below_alloc (Below.refl _ _) o)
end Go.Proofs.Ytboobfpmmaaogaa.Q
namespace Go.Proofs.Ytboobfpmmaaogaa.Pure
set_option linter.unusedVariables false
set_option linter.unusedSimpArgs false
open Go Go.RowKit Go.Proofs.Ytboobfpmmaaogaa.Q Go.Proofs.YtboobfpmmaaogaaW.PrintWords Go.Proofs.YtboobfpmmaaogaaW.PrintLast Go.Proofs.YtboobfpmmaaogaaW.PrintMore
theorem pigeon : ∀ (n : Nat) (l : List Nat), l.Nodup → (∀ x ∈ l, x < n) → l.length ≤ n := by
  intro n
  induction n with
  | zero =>
    intro l _ h
    cases l with
    | nil => exact Nat.le_refl _
    | cons a l => exact absurd (h a (by simp)) (Nat.not_lt_zero _)
  | succ n ih =>
    intro l hn h
    by_cases g : n ∈ l
    · have h1 := List.length_erase_of_mem g
      have h2 := ih (l.erase n) (hn.erase n) (fun x hx => by
        have := (hn.mem_erase_iff).1 hx
        have := h x this.2
        omega)
      omega
    · have := ih l hn (fun x hx => by
        have h1 := h x hx
        rcases Nat.lt_or_ge x n with h2 | h2
        · exact h2
        · exact absurd (show n ∈ l by rw [show n = x by omega]; exact hx) g)
      omega
theorem dirtM_iff (n : Int) : ∀ (r p : List Dty), dirtM n p r = true ↔ (∀ x ∈ r, (0 ≤ x.f0 ∧ x.f0 ≤ n - 1) ∧ x.f1.size ≤ 96) ∧ (∀ x ∈ p, ∀ y ∈ r, x.f0 ≠ y.f0) ∧ (r.map (fun x => x.f0)).Nodup := by
  intro r
  induction r with
  | nil => intro p; simp [dirtM]
  | cons z r ih =>
    intro p
    rw [dirtM]
    by_cases g : impl_isFlash.has n z.f0 = true
    · rw [if_pos g]
      have g' : 0 ≤ z.f0 ∧ z.f0 ≤ n - 1 := by simpa [impl_isFlash.has] using g
      by_cases g2 : (z.f1.size : Int) > 96
      · rw [if_pos g2]
        constructor
        · intro h; cases h
        · intro h; have := (h.1 z (by simp)).2; omega
      · rw [if_neg g2]
        by_cases g3 : p.any (impl_Flash_dirty.is z.f0) = true
        · rw [if_pos g3]
          constructor
          · intro h; cases h
          · intro h
            obtain ⟨x, hx, hy⟩ := List.any_eq_true.1 g3
            exact absurd (by simpa [impl_Flash_dirty.is] using hy) (h.2.1 x hx z (by simp))
        · rw [if_neg g3, ih]
          have g3' : ∀ x ∈ p, x.f0 ≠ z.f0 := fun x hx e => g3 (List.any_eq_true.2 ⟨x, hx, by simp [impl_Flash_dirty.is, e]⟩)
          constructor
          · rintro ⟨h1, h2, h3⟩
            refine ⟨fun x hx => ?_, fun x hx y hy => ?_, ?_⟩
            · rcases List.mem_cons.1 hx with rfl | hx
              · exact ⟨g', by omega⟩
              · exact h1 x hx
            · rcases List.mem_cons.1 hy with rfl | hy
              · exact g3' x hx
              · exact h2 x (by simp [hx]) y hy
            · rw [List.map_cons, List.nodup_cons]
              refine ⟨fun hm => ?_, h3⟩
              obtain ⟨y, hy, e⟩ := List.mem_map.1 hm
              exact h2 z (by simp) y hy e.symm
          · rintro ⟨h1, h2, h3⟩
            rw [List.map_cons, List.nodup_cons] at h3
            refine ⟨fun x hx => h1 x (by simp [hx]), fun x hx y hy => ?_, h3.2⟩
            rcases List.mem_append.1 hx with hx | hx
            · exact h2 x hx y (by simp [hy])
            · rw [List.mem_singleton] at hx
              rw [hx]
              intro e
              exact h3.1 (List.mem_map.2 ⟨y, hy, e.symm⟩)
    · rw [if_neg g]
      constructor
      · intro h; cases h
      · intro h; exact absurd (by simpa [impl_isFlash.has] using (h.1 z (by simp)).1) g
theorem flashM_iff (S : List ByteArray) (D : List Dty) : flashM S D = true ↔ ((1 ≤ S.length ∧ S.length ≤ 40) ∧ ∀ s ∈ S, s.size ≤ 96) ∧ (∀ x ∈ D, (0 ≤ x.f0 ∧ x.f0 ≤ (S.length : Int) - 1) ∧ x.f1.size ≤ 96) ∧ (D.map (fun x => x.f0)).Nodup := by
  constructor
  · intro h
    have hd := (dirtM_iff S.length D []).1 (flash_dirt h)
    exact ⟨⟨(flash_len h).1, flash_sizes h⟩, hd.1, hd.2.2⟩
  · rintro ⟨⟨h1, h2⟩, h3, h4⟩
    have hp := pigeon S.length (D.map (fun x => x.f0.toNat)) (by
      unfold List.Nodup at h4 ⊢
      rw [List.pairwise_map] at h4 ⊢
      exact h4.imp_of_mem (fun {a b} ha hb hab e => hab (by have := (h3 a ha).1; have := (h3 b hb).1; omega))) (fun x hx => by
      obtain ⟨y, hy, rfl⟩ := List.mem_map.1 hx
      have := (h3 y hy).1; omega)
    rw [List.length_map] at hp
    unfold flashM impl_isFlash.head
    rw [(dirtM_iff S.length D []).2 ⟨h3, fun x hx => (by cases hx), h4⟩]
    have hl : S.any impl_isFlash.long = false := by
      rw [List.any_eq_false]
      intro s hs
      have := h2 s hs
      simp [impl_isFlash.long]; omega
    simp [hl]; omega
theorem synced_mem : ∀ (D : List Dty) (S : List ByteArray), (∀ x ∈ D, x.f1.size ≤ 96) → (∀ s ∈ S, s.size ≤ 96) → ∀ s ∈ impl_Flash_synced S D, s.size ≤ 96 := by
  intro D
  induction D with
  | nil => intro S _ h; exact h
  | cons x r ih =>
    intro S h1 h2
    rw [impl_Flash_synced]
    refine ih _ (fun y hy => h1 y (by simp [hy])) (fun s hs => ?_)
    rcases List.mem_or_eq_of_mem_set hs with hs | hs
    · exact h2 s hs
    · rw [hs]; exact h1 x (by simp)
theorem synced_right {S : List ByteArray} {D : List Dty} (h : flashM S D = true) : flashM (impl_Flash_synced S D) [] = true := by
  rw [flashM_iff] at h ⊢
  rw [synced_length]
  exact ⟨⟨h.1.1, synced_mem D S (fun x hx => (h.2.1 x hx).2) h.1.2⟩, fun x hx => (by cases hx), List.nodup_nil⟩
theorem putGo_mem (a : Int) (d : ByteArray) : ∀ (r p : List Dty), ∀ x ∈ putGo a d p r, x ∈ p ∨ x ∈ r ∨ x = ⟨a, d⟩ := by
  intro r
  induction r with
  | nil => intro p x hx; rw [putGo] at hx; rcases List.mem_append.1 hx with h | h; exact Or.inl h; exact Or.inr (Or.inr (List.mem_singleton.1 h))
  | cons z r ih =>
    intro p x hx
    rw [putGo] at hx
    split at hx
    · rename_i e
      rcases List.mem_append.1 hx with h | h
      · exact Or.inl h
      · rcases List.mem_cons.1 h with h | h
        · exact Or.inr (Or.inr (by rw [h, e]))
        · exact Or.inr (Or.inl (by simp [h]))
    · rcases ih _ x hx with h | h | h
      · rcases List.mem_append.1 h with h | h
        · exact Or.inl h
        · exact Or.inr (Or.inl (by rw [List.mem_singleton.1 h]; simp))
      · exact Or.inr (Or.inl (by simp [h]))
      · exact Or.inr (Or.inr h)
theorem putGo_nodup (a : Int) (d : ByteArray) : ∀ (r p : List Dty), (∀ x ∈ p, x.f0 ≠ a) → ((p ++ r).map (fun x => x.f0)).Nodup → ((putGo a d p r).map (fun x => x.f0)).Nodup := by
  intro r
  induction r with
  | nil =>
    intro p hp hn
    rw [putGo, List.map_append, List.nodup_append]
    rw [List.append_nil] at hn
    refine ⟨hn, by simp, fun x hx y hy e => ?_⟩
    obtain ⟨z, hz, rfl⟩ := List.mem_map.1 hx
    rw [List.map_cons, List.map_nil, List.mem_singleton] at hy
    exact hp z hz (e.trans hy)
  | cons z r ih =>
    intro p hp hn
    rw [putGo]
    split
    · rw [List.map_append, List.map_cons] at hn ⊢
      exact hn
    · rename_i g
      refine ih (p ++ [z]) (fun x hx => ?_) (by simpa using hn)
      rcases List.mem_append.1 hx with hx | hx
      · exact hp x hx
      · rw [List.mem_singleton.1 hx]; exact g
theorem put_eq (S : List ByteArray) (D : List Dty) (a : Int) (d : ByteArray) : impl_Flash_put S D a d = putGo a d [] D := by
  have e := putGo_eq S a d D []
  simp only [List.length_nil, List.nil_append] at e
  unfold impl_Flash_put
  exact e.symm
theorem put_right {S : List ByteArray} {D : List Dty} {a : Int} {d : ByteArray} (h : flashM S D = true) (ha : 0 ≤ a ∧ a ≤ (S.length : Int) - 1) (hd : d.size ≤ 96) : flashM S (impl_Flash_put S D a d) = true := by
  rw [flashM_iff] at h ⊢
  rw [put_eq]
  refine ⟨h.1, fun x hx => ?_, putGo_nodup a d D [] (fun x hx => by cases hx) h.2.2⟩
  rcases putGo_mem a d D [] x hx with e | e | e
  · cases e
  · exact h.2.1 x e
  · rw [e]; exact ⟨ha, hd⟩
theorem get_app (S : List ByteArray) (j : Int) (r : List Dty) : ∀ (p : List Dty), (∀ x ∈ p, x.f0 ≠ j) → getF S (p ++ r) j = getF S r j := by
  intro p
  induction p with
  | nil => intro _; rfl
  | cons x p ih =>
    intro h
    rw [List.cons_append, getF, if_neg (h x (by simp))]
    exact ih (fun y hy => h y (by simp [hy]))
theorem get_other (S : List ByteArray) (j : Int) (p : List Dty) (h : ∀ x ∈ p, x.f0 ≠ j) : getF S p j = rdOf ByteArray.empty S j := by
  have := get_app S j [] p h
  rw [List.append_nil] at this
  exact this
theorem get_putGo (S : List ByteArray) (a : Int) (d : ByteArray) (j : Int) (r : List Dty) : ∀ (p : List Dty), (∀ x ∈ p, x.f0 ≠ a) → getF S (putGo a d p r) j = if j = a then d else getF S (p ++ r) j := by
  induction r with
  | nil =>
    intro p hp
    rw [putGo, List.append_nil]
    by_cases e : j = a
    · rw [if_pos e, get_app S j [⟨a, d⟩] p (fun x hx => by rw [e]; exact hp x hx), getF, if_pos e.symm]
    · rw [if_neg e]
      clear hp
      induction p with
      | nil => rw [List.nil_append, getF]; show (if a = j then d else getF S [] j) = getF S [] j; rw [if_neg (fun h => e h.symm)]
      | cons x p ih => rw [List.cons_append, getF, getF, ih]
  | cons x r ih =>
    intro p hp
    rw [putGo]
    by_cases h : x.f0 = a
    · rw [if_pos h]
      by_cases e : j = a
      · rw [if_pos e, get_app S j _ p (fun y hy => by rw [e]; exact hp y hy), getF, if_pos (by rw [e]; exact h)]
      · rw [if_neg e]
        clear hp ih
        induction p with
        | nil => rw [List.nil_append, List.nil_append, getF, getF, if_neg (show ¬ x.f0 = j from fun q => e (q.symm.trans h)), if_neg (show ¬ x.f0 = j from fun q => e (q.symm.trans h))]
        | cons y p ih => rw [List.cons_append, List.cons_append, getF, getF, ih]
    · rw [if_neg h, ih (p ++ [x]) (fun y hy => by
        rcases List.mem_append.1 hy with hy | hy
        · exact hp y hy
        · rw [List.mem_singleton] at hy; rw [hy]; exact h), List.append_assoc]
      rfl
theorem get_put (S : List ByteArray) (D : List Dty) (a : Int) (d : ByteArray) (j : Int) : getF S (impl_Flash_put S D a d) j = if j = a then d else getF S D j := by
  rw [put_eq, get_putGo S a d j D [] (by simp)]; rfl
theorem get_cong {S S' : List ByteArray} {j : Int} (h : rdOf ByteArray.empty S j = rdOf ByteArray.empty S' j) : ∀ D : List Dty, getF S D j = getF S' D j := by
  intro D
  induction D with
  | nil => exact h
  | cons x r ih => rw [getF, getF, ih]
theorem rd_set_same {S : List ByteArray} {a : Int} (h0 : 0 ≤ a) (h1 : a < (S.length : Int)) (t : ByteArray) : rdOf ByteArray.empty (S.set a.toNat t) a = t := by
  have : a.toNat < S.length := by omega
  simp [rdOf, this]
theorem sync_at (j : Int) (hj : 0 ≤ j) : ∀ (D : List Dty) (S : List ByteArray), j < (S.length : Int) → (D.map (fun x => x.f0)).Nodup → (∀ x ∈ D, 0 ≤ x.f0) → rdOf ByteArray.empty (impl_Flash_synced S D) j = getF S D j := by
  intro D
  induction D with
  | nil => intro S _ _ _; rfl
  | cons x r ih =>
    intro S hl hn h0
    rw [List.map_cons, List.nodup_cons] at hn
    have hx := h0 x (by simp)
    rw [impl_Flash_synced, ih _ (by rw [List.length_set]; exact hl) hn.2 (fun y hy => h0 y (by simp [hy])), getF]
    by_cases e : x.f0 = j
    · have hr : ∀ y ∈ r, y.f0 ≠ j := fun y hy q => hn.1 (List.mem_map.2 ⟨y, hy, q.trans e.symm⟩)
      rw [if_pos e, get_other _ j r hr, e, rd_set_same hj hl]
    · rw [if_neg e]
      exact get_cong (rdOf_set hx hj e _) r
theorem crash_at (l : List Int) (j : Int) (hj : 0 ≤ j) : ∀ (D : List Dty) (i : Int) (S : List ByteArray), j < (S.length : Int) → (D.map (fun x => x.f0)).Nodup → (∀ x ∈ D, 0 ≤ x.f0) →
    rdOf ByteArray.empty (crashM l D i S) j = rdOf ByteArray.empty S j ∨ ∃ m : Nat, m ≤ (getF S D j).size ∧ rdOf ByteArray.empty (crashM l D i S) j = (getF S D j).extract 0 m := by
  intro D
  induction D with
  | nil => intro i S _ _ _; exact .inl rfl
  | cons x r ih =>
    intro i S hl hn h0
    rw [List.map_cons, List.nodup_cons] at hn
    have hx := h0 x (by simp)
    have IH := ih (i + 1) (S.set x.f0.toNat (tornM (rdOf ByteArray.empty S x.f0) x.f1 (fateM l i))) (by rw [List.length_set]; exact hl) hn.2 (fun y hy => h0 y (by simp [hy]))
    rw [crashM, getF]
    by_cases e : x.f0 = j
    · have hr : ∀ y ∈ r, y.f0 ≠ j := fun y hy q => hn.1 (List.mem_map.2 ⟨y, hy, q.trans e.symm⟩)
      have hs := rd_set_same (S := S) hj hl (tornM (rdOf ByteArray.empty S j) x.f1 (fateM l i))
      rw [if_pos e]
      rw [e] at IH ⊢
      rw [get_other _ j r hr, hs] at IH
      have hT : tornM (rdOf ByteArray.empty S j) x.f1 (fateM l i) = rdOf ByteArray.empty S j ∨ ∃ m : Nat, m ≤ x.f1.size ∧ tornM (rdOf ByteArray.empty S j) x.f1 (fateM l i) = x.f1.extract 0 m := by
        unfold tornM
        by_cases c1 : fateM l i < 1
        · exact .inl (by rw [if_pos c1])
        · by_cases c2 : fateM l i = 1
          · exact .inr ⟨x.f1.size, Nat.le_refl _, by rw [if_neg c1, if_pos c2, ByteArray.extract_zero_size]⟩
          · exact .inr ⟨min (fateM l i - 2).toNat x.f1.size, Nat.min_le_right _ _, by rw [if_neg c1, if_neg c2]⟩
      have hfin : rdOf ByteArray.empty (crashM l r (i + 1) (S.set j.toNat (tornM (rdOf ByteArray.empty S j) x.f1 (fateM l i)))) j = tornM (rdOf ByteArray.empty S j) x.f1 (fateM l i) := by
        clear IH
        have : ∀ (r : List Dty) (i : Int) (S : List ByteArray), (∀ y ∈ r, y.f0 ≠ j) → (∀ y ∈ r, 0 ≤ y.f0) → rdOf ByteArray.empty (crashM l r i S) j = rdOf ByteArray.empty S j := by
          intro r
          induction r with
          | nil => intro i S _ _; rfl
          | cons y r ih2 =>
            intro i S hr h0
            rw [crashM, ih2 _ _ (fun z hz => hr z (by simp [hz])) (fun z hz => h0 z (by simp [hz]))]
            exact rdOf_set (h0 y (by simp)) hj (hr y (by simp)) _
        rw [this r _ _ hr (fun y hy => h0 y (by simp [hy])), hs]
      rw [hfin]
      exact hT
    · rw [if_neg e]
      have q := rdOf_set hx hj e (S := S) (tornM (rdOf ByteArray.empty S x.f0) x.f1 (fateM l i))
      rw [q, get_cong q r] at IH
      exact IH
theorem lwTexts_l0 (N : Nat) (hN : N < 9223372036854775807) (r : List ByteArray) : ∀ p : List ByteArray, p.length + r.length = N → Ev (fun k => laws_lwTexts.l0 k (p ++ r) (p ++ r) (p.length : Int)) true := by
  induction r with
  | nil => intro p h; exact Ev.step (fun k => by rw [laws_lwTexts.l0, if_neg (not_lt_end p)]) (Ev.now _)
  | cons a r ih =>
    intro p h
    simp only [List.length_cons] at h
    refine Ev.step (fun k => by rw [laws_lwTexts.l0, if_pos (lt_mid p a r), if_pos (by omega), if_pos (lt_mid p a r), if_pos rfl, next64 (by omega)]) ?_
    have := ih (p ++ [a]) (by simp; omega)
    rw [← snoc_app, lenS_snoc] at this
    exact this
theorem lwFlash_l0 (S : List ByteArray) (N : Nat) (hN : N < 9223372036854775807) (r : List Dty) : ∀ p : List Dty, p.length + r.length = N → Ev (fun k => laws_lwFlash.l0 k (p.length : Int) S (p ++ r) S (p ++ r)) true := by
  induction r with
  | nil => intro p h; exact Ev.step (fun k => by rw [laws_lwFlash.l0, if_neg (not_lt_end p)]) (Ev.now _)
  | cons a r ih =>
    intro p h
    simp only [List.length_cons] at h
    refine Ev.step (fun k => by rw [laws_lwFlash.l0, if_pos (lt_mid p a r), if_pos (by omega), if_pos (lt_mid p a r), if_neg (by simp), next64 (by omega)]) ?_
    have := ih (p ++ [a]) (by simp; omega)
    rw [← snoc_app, lenS_snoc] at this
    exact this
theorem lwFlash_same (S : List ByteArray) (D : List Dty) (h1 : S.length < 9223372036854775807) (h2 : D.length < 9223372036854775807) : Ev (fun k => laws_lwFlash.f k S D S D) true := by
  unfold laws_lwFlash.f
  refine Ev.bind (a := true) ?_ ?_
  · unfold laws_lwTexts.f
    simp only [if_true]
    exact lwTexts_l0 S.length h1 S [] (by simp)
  · simp only [if_true, bne_self_eq_false]
    refine Ev.step (fun k => by rw [laws_lwFlash.j0, if_neg (by decide)]) ?_
    exact lwFlash_l0 S D.length h2 D [] (by simp)
theorem lwFlashes_same (R : FOut) (h1 : R.1.length < 9223372036854775807) (h2 : R.2.1.length < 9223372036854775807) (h : R.2.2.2 = 0 → flashM R.1 R.2.1 = true) : Ev (fun k => laws_lwFlashes.f k R.1 R.2.1 R.2.2.1 R.2.2.2 R.1 R.2.1 R.2.2.1 R.2.2.2) true := by
  unfold laws_lwFlashes.f
  simp only [if_true]
  refine Ev.bind (lwFlash_same R.1 R.2.1 h1 h2) ?_
  simp only [if_true]
  by_cases c : R.2.2.2 = 0
  · simp only [if_pos c]
    have := specFlash R.1 R.2.1
    rw [h c] at this
    exact Ev.bind this (Ev.now _)
  · simp only [if_neg c]; exact Ev.now _
theorem readF_at {S : List ByteArray} {D : List Dty} (h : flashM S D = true) (j : Int) (h0 : 0 ≤ j) (h1 : j < (S.length : Int)) : readF S D j = (S, D, getF S D j, 0) := by
  unfold readF; rw [if_pos h, if_pos (by omega)]
theorem flash_keys {S : List ByteArray} {D : List Dty} (h : flashM S D = true) : (D.map (fun x => x.f0)).Nodup ∧ ∀ x ∈ D, 0 ≤ x.f0 :=
  ⟨((flashM_iff S D).1 h).2.2, fun x hx => (flash_at h x hx).1⟩
theorem synced_l1 (S : List ByteArray) (D : List Dty) (t : List Int) (hf : flashM S D = true) (d : Nat) : ∀ j : Nat, j + d = S.length →
    Ev (fun k => laws_FnFlash.l1 k (j : Int) S D (crashM t D 0 S) [] (impl_Flash_synced S D) [] ⟨#[]⟩ 0 (impl_Flash_synced S D) []) true := by
  obtain ⟨hk, h0⟩ := flash_keys hf
  have hlen := flash_len hf
  have hsr := synced_right hf
  have hsl := synced_length D S
  induction d with
  | zero =>
    intro j h
    refine Ev.step (f := fun _ => some true) (fun k => by rw [laws_FnFlash.l1, if_neg (by omega)]; rfl) (Ev.now _)
  | succ d ih =>
    intro j h
    have hj : (j : Int) < (S.length : Int) := by omega
    have e1 := specFlashRead S D (j : Int)
    rw [readF_at hf j (by omega) hj] at e1
    have e2 := implFlashRead (impl_Flash_synced S D) [] (j : Int) (by rw [hsl]; omega) (by simp)
    rw [readF_at hsr j (by omega) (by rw [hsl]; omega)] at e2
    have e3 : getF (impl_Flash_synced S D) [] (j : Int) = getF S D (j : Int) := sync_at j (by omega) D S hj hk h0
    rw [e3] at e2
    refine Ev.step (fun k => by rw [laws_FnFlash.l1, if_pos hj]) (Ev.bind e1 ?_)
    simp only [if_pos (show (0 : Int) ≤ (j : Int) by omega), if_pos (show (j : Int) < ((crashM t D 0 S).length : Int) by rw [crashM_length]; omega), e2, Option.bind_some, if_true]
    have hnext := ih (j + 1) (by omega)
    have hw : wrap64 ((j : Int) + 1) = ((j + 1 : Nat) : Int) := next64 (by omega)
    by_cases g : (rdOf ByteArray.empty (crashM t D 0 S) (j : Int)).toList = (rdOf ByteArray.empty S (j : Int)).toList
    · simp only [if_pos g, hw]; exact hnext
    · simp only [if_neg g]
      rcases crash_at t (j : Int) (by omega) D 0 S hj hk h0 with q | ⟨m, hm, q⟩
      · exact absurd (by rw [q]) g
      · have hz : (rdOf ByteArray.empty (crashM t D 0 S) (j : Int)).size = m := by rw [q, ByteArray.size_extract]; omega
        have hx : ((getF S D (j : Int)).extract 0 ((rdOf ByteArray.empty (crashM t D 0 S) (j : Int)).size : Int).toNat).toList = (rdOf ByteArray.empty (crashM t D 0 S) (j : Int)).toList := by
          rw [hz, Int.toNat_natCast, q]
        simp only [if_neg (show ¬ ((rdOf ByteArray.empty (crashM t D 0 S) (j : Int)).size : Int) > ((getF S D (j : Int)).size : Int) by omega), if_pos (show (0 : Int) ≤ ((rdOf ByteArray.empty (crashM t D 0 S) (j : Int)).size : Int) by omega), if_pos (show ((rdOf ByteArray.empty (crashM t D 0 S) (j : Int)).size : Int) ≤ ((getF S D (j : Int)).size : Int) by omega), if_pos hx, hw]
        exact hnext
theorem sync_part (S : List ByteArray) (D : List Dty) (t : List Int) (hS : S.length ≤ 41) (hD : D.length ≤ 60) (ht : t.length ≤ 60) (hw : ∀ x ∈ t, (Lit.int .i64 x).wf = true) :
    Ev (fun k => laws_FnFlash.j2 k t S D (crashF S D t).1 (crashF S D t).2 (syncF S D).1 (syncF S D).2.1 (syncF S D).2.2.1 (syncF S D).2.2.2) true := by
  by_cases c : (syncF S D).2.2.2 = 0
  · obtain ⟨h, hf⟩ := syncF_ok S D c
    rw [h]
    have hcr : crashF S D t = (crashM t D 0 S, []) := by unfold crashF; rw [if_neg (by omega), if_pos hf]
    rw [hcr]
    have hsl := synced_length D S
    have e := implFlashCrash (impl_Flash_synced S D) [] t hw (by rw [hsl]; omega) (by simp)
    have hcs : crashF (impl_Flash_synced S D) [] t = (impl_Flash_synced S D, []) := by unfold crashF; rw [if_neg (by omega), if_pos (synced_right hf)]; rfl
    rw [hcs] at e
    refine Ev.step (fun k => by rw [laws_FnFlash.j2, if_pos rfl, e, Option.bind_some]) ?_
    exact synced_l1 S D t hf S.length 0 (Nat.zero_add _)
  · exact Ev.step (fun k => by rw [laws_FnFlash.j2, if_neg c]) (Ev.now _)
theorem written_l0 (S : List ByteArray) (D : List Dty) (a : Int) (d : ByteArray) (t : List Int) (E1 C1 Y1 : List ByteArray) (E2 C2 Y2 : List Dty) (y3 : ByteArray) (y4 : Int) (hf : flashM S D = true) (hd : d.size ≤ 96) (ha : 0 ≤ a ∧ a ≤ (S.length : Int) - 1)
    (hN : Ev (fun k => laws_FnFlash.j2 k t E1 E2 C1 C2 Y1 Y2 y3 y4) true) (n : Nat) : ∀ j : Nat, j + n = S.length →
    Ev (fun k => laws_FnFlash.l0 k a d t (j : Int) S D S (impl_Flash_put S D a d) ⟨#[]⟩ 0 E1 E2 C1 C2 Y1 Y2 y3 y4) true := by
  have hp := put_right hf ha hd
  have hlen := flash_len hf
  have hpl := put_length S D a d
  induction n with
  | zero => intro j h; exact Ev.step (fun k => by rw [laws_FnFlash.l0, if_neg (by omega)]) hN
  | succ n ih =>
    intro j h
    have hj : (j : Int) < (S.length : Int) := by omega
    have e1 := specFlashRead S D (j : Int)
    rw [readF_at hf j (by omega) hj] at e1
    have e2 := implFlashRead S (impl_Flash_put S D a d) (j : Int) (by omega) (by omega)
    rw [readF_at hp j (by omega) hj, get_put] at e2
    have hw : wrap64 ((j : Int) + 1) = ((j + 1 : Nat) : Int) := next64 (by omega)
    refine Ev.step (fun k => by rw [laws_FnFlash.l0, if_pos hj]) (Ev.bind e1 ?_)
    by_cases g : (j : Int) = a
    · simp only [if_pos g] at e2 ⊢
      simp only [e2, Option.bind_some, if_true, hw]
      exact ih (j + 1) (by omega)
    · simp only [if_neg g] at e2 ⊢
      simp only [e2, Option.bind_some, if_true, hw]
      exact ih (j + 1) (by omega)
theorem FnFlash : laws_FnFlash.Pure := by
  intro l0 l1 _ _ _ _ _ _
  refine Ev.rounds ?_
  unfold laws_FnFlash.f
  by_cases g0 : (l0.length : Int) > 1048576
  · simp only [if_pos g0]
    exact Ev.step (fun k => by rw [laws_FnFlash.j0, if_pos rfl]) (Ev.now _)
  simp only [if_neg g0]
  by_cases g1 : (l1.length : Int) > 1048576
  · rw [decide_eq_true g1]
    exact Ev.step (fun k => by rw [laws_FnFlash.j0, if_pos rfl]) (Ev.now _)
  rw [decide_eq_false g1]
  obtain ⟨S, D, a, d, e1, hS, hD⟩ := draw_FlashWrite l0 (by omega)
  obtain ⟨E, F, t, e2, hE, hF, ht, hw⟩ := draw_FlashCrash l1 (by omega)
  obtain ⟨G, H, r, e3, hG, hH⟩ := draw_FlashRead l0 (by omega)
  obtain ⟨n, e4⟩ := draw_FlashNew l1 (by omega)
  obtain ⟨x, y, z, e5, hy, hz⟩ := draw_Torn l1 (by omega)
  have w1 := writeF_len1 S D a d
  have w2 := writeF_len2 S D a d
  have c1 := crashF_len1 E F t
  have c2 := crashF_len2 E F t
  have s1 := syncF_len1 E F
  have s2 := syncF_len2 E F
  have r1 := readF_len1 G H r
  have r2 := readF_len2 G H r
  have n1 := newOut_length n
  have iT : impl_Torn.f x y z = some (if (x.size : Int) > 8000 ∨ (y.size : Int) > 8000 then ⟨#[]⟩ else tornM x y z) := by
    unfold impl_Torn.f
    by_cases q : (x.size : Int) > 8000
    · rw [if_pos q, if_pos (.inl q)]
    · rw [if_neg q, if_neg (show ¬ (y.size : Int) > 8000 by omega), if_neg (show ¬ ((x.size : Int) > 8000 ∨ (y.size : Int) > 8000) by omega), implTorn x y z (by omega) hz]; rfl
  have iR : impl_FlashRight.f E F = some (flashM E F) := by unfold impl_FlashRight.f; rw [implFlash E F (by omega) (by omega)]; rfl
  refine Ev.step (fun k => by rw [laws_FnFlash.j0, if_neg (by decide)]) ?_
  refine Ev.bind e1 (Ev.bind1 (implFlashWrite S D a d (by omega) (by omega)) (Ev.bind e2 (Ev.bind1 (implFlashCrash E F t hw (by omega) (by omega)) (Ev.bind1 (implFlashSync E F (by omega) (by omega)) (Ev.bind e3 (Ev.bind e4 (Ev.bind e5 (Ev.bind (specFlashWrite S D a d) (Ev.bind (lwFlashes_same (writeF S D a d) (by omega) (by omega) (fun c => by
    obtain ⟨h, hf, hd, ha⟩ := writeF_ok S D a d c; rw [h]; exact put_right hf ha hd)) ?_)))))))))
  simp only [if_true]
  refine Ev.bind (specFlashCrash E F t hw (by omega) (by omega)) (Ev.bind (lwFlash_same (crashF E F t).1 (crashF E F t).2 (by omega) (by omega)) ?_)
  simp only [if_true]
  refine Ev.bind (specFlashSync E F) (Ev.bind (lwFlashes_same (syncF E F) (by omega) (by omega) (fun c => by
    obtain ⟨h, hf⟩ := syncF_ok E F c; rw [h]; exact synced_right hf)) ?_)
  simp only [if_true]
  refine Ev.bind1 (implFlashRead G H r (by omega) (by omega)) (Ev.bind (specFlashRead G H r) (Ev.bind (lwFlashes_same (readF G H r) (by omega) (by omega) (fun c => by
    unfold readF at c ⊢
    by_cases q1 : flashM G H = true
    · rw [if_pos q1] at c ⊢
      by_cases q2 : 0 ≤ r ∧ r ≤ (G.length : Int) - 1
      · rw [if_pos q2]; exact q1
      · rw [if_neg q2] at c; exact absurd c (by unfold illF; decide)
    · rw [if_neg q1] at c; exact absurd c (by unfold illF; decide))) ?_))
  simp only [if_true]
  refine Ev.bind1 (implFlashNew n) (Ev.bind1 (specFlashNew n) (Ev.bind (lwFlash_same (newOut n) [] (by omega) (by simp)) ?_))
  simp only [if_true]
  refine Ev.bind1 iT (Ev.bind (specTorn x y z (by omega) hz) ?_)
  simp only [if_true]
  refine Ev.bind1 iR (Ev.bind (specFlash E F) ?_)
  simp only [show (flashM E F != flashM E F) = false by simp, if_neg (show ¬ (false = true) by decide)]
  have hN := sync_part E F t hE hF ht hw
  by_cases c : (writeF S D a d).2.2.2 = 0
  · obtain ⟨h, hf, hd, ha⟩ := writeF_ok S D a d c
    simp only [if_pos c]
    rw [h]
    exact written_l0 S D a d t E _ _ F _ _ _ _ hf hd ha hN S.length 0 (Nat.zero_add _)
  · simp only [if_neg c]; exact hN
end Go.Proofs.Ytboobfpmmaaogaa.Pure
namespace Go.Proofs.YtboobfpmmaaogaaW.PrintWords
open Go.ChangeShapes Go.WideShapes
theorem sized_ints {H : Type} {enc : TypeId × Value → H} {P : Program} {W : World} {base : Nat} {spare : Nat → Bool} {held : Bool} {t e : TypeId} {k : IntKind} {a : Option Addr} {len cap : Nat} {d : DataW H} {ps : List MemPlace} {ts : List TypeId} {ds : List (DataW H)} {j : Nat}
    (hsz : (DataW.weightsEach P ts ds).all (· ≤ reachBytes) = true) (ht : ts[j]? = some t) (hd : ds[j]? = some d) (hu : P.underlying t = some (.slice e)) (he : P.underlying e = some (.int k)) (hc : P.cellsOf e = 1) {B : Nat} (hB : P.bytesOf e = B)
    (h : DataW.Trod enc P W base spare held t (.slice a len cap) d ps) : len * B ≤ 140737488351232 := by
  obtain ⟨fuel, hf⟩ := h
  rcases open_ints hu he hc hf with ⟨hcs, _⟩ | ⟨x, l, c, zs, hcs, _, hl, _, hz, hx, _, _⟩
  · simp [Value.cells] at hcs
    obtain ⟨rfl, rfl, rfl⟩ := hcs
    simp
  · simp [Value.cells] at hcs
    obtain ⟨rfl, rfl, rfl⟩ := hcs
    obtain ⟨hx, _⟩ := Prod.mk.inj hx
    subst hx
    have z := sized_slice hsz ht hd hu
    rw [hB] at z
    have hl2 : len ≤ zs.length := by
      rw [hz]
      split
      · exact hl
      · exact Nat.le_refl _
    have h1 : (lits (H := H) k (zs.take len)).length + (lits (H := H) k (zs.drop len)).length = zs.length := by
      simp [lits]
      omega
    rw [h1] at z
    exact Nat.le_trans (Nat.mul_le_mul_right _ hl2) z
end Go.Proofs.YtboobfpmmaaogaaW.PrintWords
