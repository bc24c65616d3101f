/- An image's update keeps the number of blocks, leaves what no step writes and makes the rest of the old image; a block exclusive-ored twice comes back; for every draw. Part 5. -/
import Derived.Test.YtldhjbjbjoomcaaDoorKFnImage4
import Derived.Lib.Join
namespace Go.Proofs.YtldhjbjbjoomcaaDoor.Pure
set_option linter.unusedVariables false
set_option linter.unusedSimpArgs false
open Go Go.RowKit Go.Proofs.YtldhjbjbjoomcaaDoor.Q Go.Proofs.YtldhjbjbjoomcaaDoorW.PrintWords Go.Proofs.YtldhjbjbjoomcaaDoorW.PrintLast Go.Proofs.YtldhjbjbjoomcaaDoorW.PrintMore
def applyGo (im : List ByteArray) : List ByteArray → List Stp → List ByteArray
  | out, [] => out
  | out, x :: r => if x.f0 = 5 then applyGo im out r else applyGo im (out.set x.f1.toNat (makeM x.f0 x.f3 (rdOf ByteArray.empty im x.f2))) r
theorem applyGo_length (im : List ByteArray) : ∀ (r : List Stp) (out : List ByteArray), (applyGo im out r).length = out.length := by
  intro r
  induction r with
  | nil => intro out; rfl
  | cons x r ih => intro out; rw [applyGo]; split <;> rw [ih]; rw [List.length_set]
theorem applyGo_only (im : List ByteArray) : ∀ (r : List Stp) (out : List ByteArray), applyGo im out (onlyW r) = applyGo im out r := by
  intro r
  induction r with
  | nil => intro out; rfl
  | cons x r ih =>
    intro out
    by_cases h : x.f0 = 5
    · rw [show onlyW (x :: r) = onlyW r by simp [onlyW, h], applyGo, if_pos h, ih]
    · rw [show onlyW (x :: r) = x :: onlyW r by simp [onlyW, h], applyGo, applyGo, if_neg h, if_neg h, ih]
theorem step_to {k b c : Int} {d : ByteArray} {n : Int} (h : stepM k b c d n = true) (hk : ¬ k = 5) : 0 ≤ b ∧ b ≤ n - 1 := by
  unfold stepM inr at h
  by_cases k1 : k = 1
  · rw [if_pos k1] at h
    simp only [Bool.and_eq_true, decide_eq_true_eq] at h
    exact h.1.1
  · rw [if_neg k1] at h
    by_cases k2 : k = 2
    · rw [if_pos k2] at h
      simp only [Bool.and_eq_true, decide_eq_true_eq] at h
      exact h.1.1
    · rw [if_neg k2] at h
      by_cases k3 : k = 3
      · rw [if_pos k3] at h
        simp only [Bool.and_eq_true, decide_eq_true_eq] at h
        exact h.1.1
      · rw [if_neg k3] at h
        by_cases k4 : k = 4
        · rw [if_pos k4] at h
          simp only [Bool.and_eq_true, decide_eq_true_eq] at h
          exact h.1.1
        · rw [if_neg k4, if_neg hk] at h
          exact absurd h (by decide)
theorem specApply (im : List ByteArray) (hi : imageM im = true) (hz : spec_l07Zero.f = some zero8) (N : Nat) (hN : N ≤ 20) (r : List Stp) : ∀ (p : List Stp) (out : List ByteArray), p.length + r.length = N → out.length = im.length → (∀ x ∈ r, stepM x.f0 x.f1 x.f2 x.f3 im.length = true) →
    Ev (fun k => spec_l07Apply.l0 k im (p ++ r) out (p.length : Int)) (applyGo im out r) := by
  have hn := image_len hi
  induction r with
  | nil => intro p out h _ _; exact Ev.step (f := fun _ => some out) (fun k => by rw [spec_l07Apply.l0, if_neg (not_lt_end p)]) (Ev.now _)
  | cons x r ih =>
    intro p out h ho hs
    simp only [List.length_cons] at h
    refine Ev.step (fun k => by rw [spec_l07Apply.l0, if_pos (lt_mid p x r), if_pos (by omega), rdSt_mid, next64 (by omega)]) ?_
    rw [applyGo]
    have hs' : ∀ y ∈ r, stepM y.f0 y.f1 y.f2 y.f3 im.length = true := fun y hy => hs y (by simp [hy])
    by_cases g : x.f0 = 5
    · simp only [if_pos g]
      have := ih (p ++ [x]) out (by simp; omega) ho hs'
      rw [← snoc_app, lenS_snoc] at this
      exact this
    · have hx := hs x (by simp)
      obtain ⟨⟨c0, c1⟩, hd⟩ := step_from hx g hn.1
      obtain ⟨b0, b1⟩ := step_to hx g
      simp only [if_neg g, if_pos c0, if_pos (show x.f2 < (im.length : Int) by omega)]
      refine Ev.bind (specMake x.f0 x.f1 x.f2 x.f3 _ (image_at hi c0 (by omega)) hd hz) ?_
      simp only [if_pos b0, if_pos (show x.f1 < (out.length : Int) by omega)]
      have := ih (p ++ [x]) (out.set x.f1.toNat (makeM x.f0 x.f3 (rdOf ByteArray.empty im x.f2))) (by simp; omega) (by rw [List.length_set]; exact ho) hs'
      rw [← snoc_app, lenS_snoc] at this
      exact this
theorem implApply (im : List ByteArray) (hi : imageM im = true) (N : Nat) (hN : N ≤ 20) (r : List Stp) : ∀ (p : List Stp) (out : List ByteArray), p.length + r.length = N → out.length = im.length → (∀ x ∈ r, stepM x.f0 x.f1 x.f2 x.f3 im.length = true ∧ ¬ x.f0 = 5) →
    Ev (fun k => impl_imageApply.l0 k im out (p ++ r) (N : Int) (p.length : Int)) (applyGo im out r) := by
  have hn := image_len hi
  induction r with
  | nil => intro p out h _ _; simp at h; exact Ev.step (f := fun _ => some out) (fun k => by rw [impl_imageApply.l0, if_neg (by omega)]) (Ev.now _)
  | cons x r ih =>
    intro p out h ho hs
    simp only [List.length_cons] at h
    refine Ev.step (fun k => by rw [impl_imageApply.l0, if_pos (show (p.length : Int) < (N : Int) by omega), if_pos (by omega), if_pos (lt_mid p x r), rdSt_mid, next64 (by omega)]) ?_
    rw [applyGo]
    obtain ⟨hx, g⟩ := hs x (by simp)
    obtain ⟨⟨c0, c1⟩, hd⟩ := step_from hx g hn.1
    obtain ⟨b0, b1⟩ := step_to hx g
    simp only [if_neg g, if_pos c0, if_pos (show x.f2 < (im.length : Int) by omega)]
    rw [implMake x.f0 x.f1 x.f2 x.f3 _ (image_at hi c0 (by omega)) hd]
    simp only [Option.bind_some, if_pos b0, if_pos (show x.f1 < (out.length : Int) by omega)]
    have := ih (p ++ [x]) (out.set x.f1.toNat (makeM x.f0 x.f3 (rdOf ByteArray.empty im x.f2))) (by simp; omega) (by rw [List.length_set]; exact ho) (fun y hy => hs y (by simp [hy]))
    rw [← snoc_app, lenS_snoc] at this
    exact this
def applyM (im : List ByteArray) (l : List Stp) : List ByteArray × Int :=
  if (im.length : Int) > 400 ∨ (l.length : Int) > 400 then ([], 2) else if imageM im = true then (if codeM l im.length = 0 then (applyGo im im l, 0) else ([], codeM l im.length)) else ([], 1)
theorem applyM_length (im : List ByteArray) (l : List Stp) : (applyM im l).1.length ≤ im.length := by
  unfold applyM
  split
  · simp
  · split
    · split
      · rw [applyGo_length]; exact Nat.le_refl _
      · simp
    · simp
theorem code_steps {l : List Stp} {n : Int} (h : codeM l n = 0) : (l.length : Int) ≤ 20 ∧ ∀ x ∈ l, stepM x.f0 x.f1 x.f2 x.f3 n = true := by
  unfold codeM at h
  by_cases hf : formM l n = true
  · unfold formM at hf
    simp only [Bool.and_eq_true, decide_eq_true_eq, Bool.not_eq_true', List.any_eq_false] at hf
    refine ⟨hf.1.2, fun x hx => ?_⟩
    have := hf.2 x hx
    simpa [badM] using this
  · rw [if_neg hf] at h; exact absurd h (by decide)
theorem implImageApply (im : List ByteArray) (l : List Stp) (h1 : im.length ≤ 9223372036854775807) (h2 : l.length ≤ 9223372036854775807) : Ev (fun k => impl_ImageApply.f k im l) (applyM im l) := by
  unfold impl_ImageApply.f applyM
  by_cases g1 : (im.length : Int) > 400
  · simp only [if_pos g1, if_pos (show (im.length : Int) > 400 ∨ (l.length : Int) > 400 from .inl g1)]
    exact Ev.step (f := fun _ => some ([], 2)) (fun k => by rw [impl_ImageApply.j0, if_pos rfl]) (Ev.now _)
  · simp only [if_neg g1]
    by_cases g2 : (l.length : Int) > 400
    · rw [if_pos (.inr g2), decide_eq_true g2]
      exact Ev.step (f := fun _ => some ([], 2)) (fun k => by rw [impl_ImageApply.j0, if_pos rfl]) (Ev.now _)
    · rw [if_neg (by omega), decide_eq_false g2]
      refine Ev.step (fun k => by rw [impl_ImageApply.j0, if_neg (by decide), implImage im h1]) ?_
      simp only [Option.bind_some]
      by_cases hi : imageM im = true
      · simp only [if_pos hi]
        unfold impl_size_string.f
        simp only [Option.bind_some]
        refine Ev.bind (implCode l im.length h2) ?_
        by_cases hc : codeM l im.length = 0
        · simp only [if_pos hc]
          obtain ⟨hl, hst⟩ := code_steps hc
          have hn := image_len hi
          refine Ev.bind (a := applyGo im im l) ?_ (Ev.now _)
          unfold impl_imageApply.f
          rw [show slices_Clone_string_string.f im = some im by unfold slices_Clone_string_string.f; rw [if_pos (by omega)], implOnlyW l (by omega)]
          simp only [Option.bind_some]
          have hw := onlyW_length l
          have := implApply im hi (onlyW l).length (by omega) (onlyW l) [] im (by simp) rfl (fun x hx => by
            unfold onlyW at hx
            rw [List.mem_filter] at hx
            exact ⟨hst x hx.1, by simpa using hx.2⟩)
          rw [applyGo_only] at this
          exact this
        · simp only [if_neg hc]; exact Ev.now _
      · simp only [if_neg hi]; exact Ev.now _
theorem specImageApply (im : List ByteArray) (l : List Stp) (hz : spec_l07Zero.f = some zero8) : Ev (fun k => spec_ImageApply.f k im l) (applyM im l) := by
  unfold spec_ImageApply.f applyM
  by_cases g1 : (im.length : Int) > 400
  · simp only [if_pos g1, if_pos (show (im.length : Int) > 400 ∨ (l.length : Int) > 400 from .inl g1)]
    exact Ev.step (f := fun _ => some ([], 2)) (fun k => by rw [spec_ImageApply.j0, if_pos rfl]; rfl) (Ev.now _)
  · simp only [if_neg g1]
    by_cases g2 : (l.length : Int) > 400
    · rw [if_pos (.inr g2), decide_eq_true g2]
      exact Ev.step (f := fun _ => some ([], 2)) (fun k => by rw [spec_ImageApply.j0, if_pos rfl]; rfl) (Ev.now _)
    · rw [if_neg (by omega), decide_eq_false g2]
      refine Ev.step (fun k => by rw [spec_ImageApply.j0, if_neg (by decide)]) (Ev.bind (specImage im) ?_)
      by_cases hi : imageM im = true
      · simp only [if_pos hi]
        refine Ev.bind (specCode l im.length) ?_
        by_cases hc : codeM l im.length = 0
        · simp only [if_pos hc]
          obtain ⟨hl, hst⟩ := code_steps hc
          have hn := image_len hi
          refine Ev.bind (a := applyGo im im l) ?_ (Ev.now _)
          unfold spec_l07Apply.f
          simp only [Option.bind_some, List.length_nil, List.nil_append, if_pos (show 0 + im.length < 8796093022208 by omega)]
          exact specApply im hi hz l.length (by omega) l [] im (by simp) rfl hst
        · simp only [if_neg hc]; unfold spec_l07Ill.f; exact Ev.now _
      · simp only [if_neg hi]; unfold spec_l07Ill.f; exact Ev.now _
end Go.Proofs.YtldhjbjbjoomcaaDoor.Pure
namespace Go.Proofs.YtldhjbjbjoomcaaDoor.Pure
set_option linter.unusedVariables false
set_option linter.unusedSimpArgs false
open Go Go.RowKit Go.Proofs.YtldhjbjbjoomcaaDoorW.PrintWords Go.Proofs.YtldhjbjbjoomcaaDoorW.PrintLast Go.Proofs.YtldhjbjbjoomcaaDoorW.PrintMore
def bl (s : ByteArray) : List Int := s.data.toList.map (fun b => (b.toNat : Int))
theorem bl_length (s : ByteArray) : (bl s).length = s.size := by rw [bl, List.length_map, Array.length_toList]; rfl
theorem bt_bl (s : ByteArray) (i : Nat) : bt s (i : Int) = ((bl s)[i]?).getD 0 := by
  unfold bt bl
  by_cases h : i < s.size
  · have h2 : i < s.data.size := h
    rw [dif_pos (by simpa using h)]
    simp only [Int.toNat_natCast, List.getElem?_map, Array.getElem?_toList, Array.getElem?_eq_getElem h2, Option.map_some, Option.getD_some]
    rfl
  · have h2 : s.data.size ≤ i := Nat.not_lt.1 h
    rw [dif_neg (by simpa using h)]
    simp [Array.getElem?_eq_none h2]
theorem bl_nums (l : List Int) (h : ∀ x ∈ l, 0 ≤ x ∧ x < 256) : bl (strOfNums l) = l := by
  unfold bl
  rw [strOfNums_data, List.map_map]
  refine (List.map_congr_left (fun x hx => ?_)).trans (List.map_id l)
  have := h x hx
  simp only [Function.comp, UInt8.toNat_ofNat']
  show ((x.toNat % 2 ^ 8 : Nat) : Int) = id x
  rw [show (2 : Nat) ^ 8 = 256 from rfl]; simp only [id]; omega
end Go.Proofs.YtldhjbjbjoomcaaDoor.Pure
namespace Go.Proofs.YtldhjbjbjoomcaaDoor.Pure
set_option linter.unusedVariables false
set_option linter.unusedSimpArgs false
open Go Go.RowKit Go.Proofs.YtldhjbjbjoomcaaDoor.Q Go.Proofs.YtldhjbjbjoomcaaDoorW.PrintWords Go.Proofs.YtldhjbjbjoomcaaDoorW.PrintLast Go.Proofs.YtldhjbjbjoomcaaDoorW.PrintMore
theorem xor8b {a b : Nat} (ha : a < 256) (hb : b < 256) : Go.bits .xor .u8 (a : Int) (b : Int) = ((a ^^^ b : Nat) : Int) := by
  have hx := Nat.xor_lt_two_pow (n := 8) ha hb
  simp [Go.bits]
  rw [show IntKind.u8.bits = 8 from rfl, Nat.mod_eq_of_lt (show a < 2 ^ 8 by omega), Nat.mod_eq_of_lt (show b < 2 ^ 8 by omega)]
  generalize a ^^^ b = c at hx ⊢
  simp [IntKind.wrap, IntKind.signed, IntKind.bits]; omega
theorem xor_rng (a b : ByteArray) (i : Int) : 0 ≤ Go.bits .xor .u8 (bt a i) (bt b i) ∧ Go.bits .xor .u8 (bt a i) (bt b i) < 256 := by
  obtain ⟨x, hx⟩ := Int.eq_ofNat_of_zero_le (bt_nonneg a i)
  obtain ⟨y, hy⟩ := Int.eq_ofNat_of_zero_le (bt_nonneg b i)
  have h1 := bt_le a i
  have h2 := bt_le b i
  rw [hx, hy, xor8b (by omega) (by omega)]
  have : x ^^^ y < 256 := Nat.xor_lt_two_pow (n := 8) (by omega) (by omega)
  omega
theorem xs_range (a b : ByteArray) : ∀ (n : Nat), ∀ x ∈ impl_xored.xs a b n, 0 ≤ x ∧ x < 256 := by
  intro n
  induction n with
  | zero => intro x hx; simp [impl_xored.xs] at hx
  | succ n ih =>
    intro x hx
    rw [impl_xored.xs, List.mem_append, List.mem_singleton] at hx
    rcases hx with hx | rfl
    · exact ih x hx
    · exact xor_rng a b n
theorem xs_get (a b : ByteArray) : ∀ (n j : Nat), j < n → (impl_xored.xs a b n)[j]? = some (Go.bits .xor .u8 (bt a j) (bt b j)) := by
  intro n
  induction n with
  | zero => intro j h; omega
  | succ n ih =>
    intro j h
    rw [impl_xored.xs]
    by_cases e : j = n
    · subst e; rw [List.getElem?_append_right (by rw [xs_length]; exact Nat.le_refl _), xs_length]; simp
    · rw [List.getElem?_append_left (by rw [xs_length]; omega)]; exact ih j (by omega)
theorem bl_xorM (a b : ByteArray) : bl (xorM a b) = impl_xored.xs a b 8 := bl_nums _ (xs_range a b 8)
theorem xorM_size (a b : ByteArray) : (xorM a b).size = 8 := by rw [← bl_length, bl_xorM, xs_length]
theorem bt_xorM (a b : ByteArray) (j : Nat) (h : j < 8) : bt (xorM a b) (j : Int) = Go.bits .xor .u8 (bt a j) (bt b j) := by rw [bt_bl, bl_xorM, xs_get a b 8 j h]; rfl
theorem bl_inj {a b : ByteArray} (h : bl a = bl b) : a = b := by
  have hd : a.data.toList = b.data.toList := by
    unfold bl at h
    refine List.map_inj_right (f := fun x : UInt8 => (x.toNat : Int)) (fun x y hxy => ?_) |>.1 h
    exact UInt8.toNat_inj.1 (by have h2 : (x.toNat : Int) = (y.toNat : Int) := hxy; omega)
  rcases a with ⟨⟨a⟩⟩; rcases b with ⟨⟨b⟩⟩
  simpa using hd
theorem bt_ext {a b : ByteArray} (hs : a.size = b.size) (h : ∀ j : Nat, j < a.size → bt a (j : Int) = bt b (j : Int)) : a = b := by
  refine bl_inj (List.ext_getElem? (fun j => ?_))
  by_cases hj : j < a.size
  · have := h j hj
    rw [bt_bl, bt_bl] at this
    rw [List.getElem?_eq_getElem (show j < (bl a).length by rw [bl_length]; exact hj), List.getElem?_eq_getElem (show j < (bl b).length by rw [bl_length]; omega)] at this ⊢
    simpa using this
  · rw [List.getElem?_eq_none (by rw [bl_length]; omega), List.getElem?_eq_none (by rw [bl_length]; omega)]
theorem xor_twice (x y : Int) (hx : 0 ≤ x ∧ x ≤ 255) (hy : 0 ≤ y ∧ y ≤ 255) : Go.bits .xor .u8 x (Go.bits .xor .u8 x y) = y ∧ Go.bits .xor .u8 (Go.bits .xor .u8 x y) y = x := by
  obtain ⟨a, rfl⟩ := Int.eq_ofNat_of_zero_le hx.1
  obtain ⟨b, rfl⟩ := Int.eq_ofNat_of_zero_le hy.1
  have ha : a < 256 := by omega
  have hb : b < 256 := by omega
  have hl : a ^^^ b < 256 := Nat.xor_lt_two_pow (n := 8) ha hb
  rw [xor8b ha hb, xor8b ha hl, xor8b hl hb]
  constructor
  · rw [← Nat.xor_assoc, Nat.xor_self, Nat.zero_xor]
  · rw [Nat.xor_assoc, Nat.xor_self, Nat.xor_zero]
theorem xor_right (a b : ByteArray) (ha : a.size = 8) : xorM (xorM a b) b = a := by
  refine bt_ext (by rw [xorM_size, ha]) (fun j hj => ?_)
  rw [xorM_size] at hj
  rw [bt_xorM _ _ j hj, bt_xorM _ _ j hj]
  exact (xor_twice _ _ ⟨bt_nonneg _ _, bt_le _ _⟩ ⟨bt_nonneg _ _, bt_le _ _⟩).2
def cat (l : List ByteArray) : ByteArray := ⟨((l.map (·.data.toList)).flatten).toArray⟩
theorem cat_cons (a : ByteArray) (r : List ByteArray) (x : ByteArray) : x ++ cat (a :: r) = (x ++ a) ++ cat r := by
  apply toList_inj
  rw [toList_data, toList_data]
  simp [cat]
theorem cat_nil (x : ByteArray) : x ++ cat [] = x := by
  apply toList_inj
  rw [toList_data, toList_data]
  simp [cat]
theorem specJoin_l0 (N : Nat) (hN : N ≤ 1000) (r : List ByteArray) : ∀ (p : List ByteArray) (x : ByteArray), p.length + r.length = N → x.size = 8 * p.length → (∀ s ∈ r, s.size = 8) → Ev (fun k => spec_l07Join.l0 k (p ++ r) x (p.length : Int)) (x ++ cat r) := by
  induction r with
  | nil => intro p x h hx _; exact Ev.step (f := fun _ => some x) (fun k => by rw [spec_l07Join.l0, if_neg (not_lt_end p)]) (by rw [cat_nil]; exact Ev.now _)
  | cons a r ih =>
    intro p x h hx hs
    simp only [List.length_cons] at h
    have ha := hs a (by simp)
    refine Ev.step (fun k => by rw [spec_l07Join.l0, if_pos (lt_mid p a r), if_pos (by omega), rdS_mid, if_pos (by omega), next64 (by omega)]) ?_
    have := ih (p ++ [a]) (x ++ a) (by simp; omega) (by rw [ByteArray.size_append, hx, ha]; simp; omega) (fun s hs' => hs s (by simp [hs']))
    rw [← snoc_app, lenS_snoc, ← cat_cons] at this
    exact this
theorem imageM_sizes {l : List ByteArray} (h : imageM l = true) : l ≠ [] ∧ l.length ≤ 8 ∧ ∀ s ∈ l, s.size = 8 := by
  simp only [imageM, Bool.and_eq_true, decide_eq_true_eq, Bool.not_eq_true', List.any_eq_false, bne_iff_ne, ne_eq, Decidable.not_not] at h
  obtain ⟨⟨h1, h2⟩, h3⟩ := h
  refine ⟨fun e => by subst e; simp at h1, by omega, fun s hs => ?_⟩
  have := h3 s hs
  omega
theorem specJoin (l : List ByteArray) (h : imageM l = true) : Ev (fun k => spec_l07Join.f k l) (cat l) := by
  obtain ⟨_, h2, h3⟩ := imageM_sizes h
  have := specJoin_l0 l.length (by omega) l [] ⟨#[]⟩ (by simp) rfl h3
  unfold spec_l07Join.f
  have e : (⟨#[]⟩ : ByteArray) ++ cat l = cat l := by
    apply toList_inj
    rw [toList_data, toList_data]
    simp
  rw [e] at this
  exact this
theorem cat_size {l : List ByteArray} (h3 : ∀ s ∈ l, s.size = 8) : (cat l).size = 8 * l.length := by
  induction l with
  | nil => rfl
  | cons a r ih =>
    have e := cat_cons a r ⟨#[]⟩
    have := congrArg ByteArray.size e
    simp only [ByteArray.size_append] at this
    rw [ih (fun s hs => h3 s (by simp [hs])), h3 a (by simp)] at this
    have z : (⟨#[]⟩ : ByteArray).size = 0 := rfl
    rw [z] at this
    simp only [List.length_cons]
    omega
theorem cat_join (l : List ByteArray) : (⟨(Lib.join (l.map (·.data.toList)) (⟨#[]⟩ : ByteArray).data.toList).toArray⟩ : ByteArray) = cat l := by
  unfold cat Lib.join
  congr 2
  show List.intercalate [] _ = _
  generalize l.map (·.data.toList) = xs
  induction xs with
  | nil => rfl
  | cons a r ih =>
    cases r with
    | nil => simp [List.intercalate]
    | cons b r =>
      simp only [List.intercalate, List.intersperse] at ih ⊢
      simp only [List.flatten_cons, List.nil_append] at ih ⊢
      rw [ih]
end Go.Proofs.YtldhjbjbjoomcaaDoor.Pure
