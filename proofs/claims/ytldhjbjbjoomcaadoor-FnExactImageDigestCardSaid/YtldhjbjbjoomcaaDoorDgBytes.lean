import Derived.Lib.Bytealg
import Derived.Test.YtldhjbjbjoomcaaDoorDgDigest
import Derived.Test.YtldhjbjbjoomcaaDoorQx0
namespace Go.Proofs.YtldhjbjbjoomcaaDoor.Q
open Go.RowKit Go.Proofs.YtldhjbjbjoomcaaDoorW.PrintWords Go.Proofs.YtldhjbjbjoomcaaDoorW.PrintLast Go.Proofs.YtldhjbjbjoomcaaDoorW.PrintMore
attribute [local go_sem] max2_int min2_int max_two min_two max_three min_three max_four min_four Instr.field asAgg   -- for this text's walks alone
set_option linter.unusedVariables false
set_option linter.unusedSimpArgs false
/-- A row of bytes in a block that is not older than base. -/
def dg.Bw (base : Nat) (W : World) (v : Value) (xs : List Int) : Prop :=
  ∃ g cap, v = .slice (some ⟨g, 0, none⟩) xs.length cap ∧ base ≤ g ∧ xs.length ≤ cap ∧ (∀ j x, xs[j]? = some x → W.cell? ⟨g, j, none⟩ = some (.int .u8 x)) ∧ (∀ j, j < cap → (W.cell? ⟨g, j, none⟩).isSome = true ∧ W.frozen? ⟨g, j, none⟩ = false) ∧ g < W.heap.size
theorem dg.frozen_below {B : Nat} {w w' : World} (h : Below B w w') {a : Addr} (ha : a.block < B) : w'.frozen? a = w.frozen? a := by
  unfold World.frozen?; rw [h.block _ ha]
theorem dg.Bw_below {base : Nat} {W W' : World} {v : Value} {xs : List Int} (h : dg.Bw base W v xs) (hb : Below W.heap.size W W') : dg.Bw base W' v xs := by
  obtain ⟨g, cap, rfl, h1, h2, h3, h4, h5⟩ := h
  refine ⟨g, cap, rfl, h1, h2, fun j x hx => ?_, fun j hj => ?_, Nat.lt_of_lt_of_le h5 hb.size⟩
  · rw [hb.cell (show (⟨g, j, none⟩ : Addr).block < _ from h5)]; exact h3 j x hx
  · rw [hb.cell (show (⟨g, j, none⟩ : Addr).block < _ from h5), dg.frozen_below hb (show (⟨g, j, none⟩ : Addr).block < _ from h5)]; exact h4 j hj
theorem dg.Bw_own {base n : Nat} {W : World} {v : Value} {xs : List Int} (h : W.ownsRow base 5 1 v n (nums .u8 xs)) (hn : 0 < n) : dg.Bw base W v xs := by
  have hl : xs.length = n := by have := h.1; rw [nums_length] at this; omega
  rcases h.2 with ⟨_, h0⟩ | ⟨g, cap, cur, rfl, h1, h2, h3, h4, h5, h6⟩
  · omega
  rw [Nat.mul_one] at h5 h6
  refine ⟨g, cap, by rw [hl], h1, by omega, fun j x hx => ?_, fun j hj => ?_, ?_⟩
  · have hj : j < xs.length := by
      rcases Nat.lt_or_ge j xs.length with h | h
      · exact h
      · rw [List.getElem?_eq_none h] at hx; cases hx
    have := h.cells (g := g) rfl j (.int .u8 x) (by simp [nums, hx])
    have ha : (⟨g, 0, none⟩ : Addr).add j = ⟨g, j, none⟩ := by unfold Addr.add; split <;> simp_all
    rwa [ha] at this
  · constructor
    · simp [World.cell?, h2, show j < cur.size by omega]
    · simp [World.frozen?, h2]
  · exact (Array.getElem?_eq_some_iff.mp h2).1
theorem dg.below_grown {base : Nat} {W w' : World} (h : W.grownBy w' none) (hb : base ≤ W.heap.size) : Below base W w' := (Below.refl base W).grown h hb (fun k hk => by cases hk)
theorem dg.below_set {base g : Nat} (hg : base ≤ g) : ∀ (vs : List Value) (o : Nat) (W : World), Below base W (W.setCells g o vs) := by
  intro vs
  induction vs with
  | nil => intro o W; exact Below.refl _ _
  | cons v vs ih => intro o W; exact Below.trans ((Below.refl base W).setCell (p := ⟨g, o, none⟩) hg v) (ih _ _)
theorem dg.append_b {ops : Array Oper} {rest : List Oper} {o : Oper} {a : Act} {Q : Exit → Act → World → Prop} {W : World} (base : Nat) (hbs : base ≤ W.heap.size) (hg : o.guard = none) (s x : Operand)
    (hop : o.op = Op.call { callee := Callee.builtin Builtin.append, args := #[s, x], argTypes := #[24, 24] }) (xs ys : List Int) (m c : Nat) (cs : Array Value) (hcs : cs = (nums .u8 ys).toArray) (hm : ys.length = m)
    (hxs : dg.Bw base W (a.eval s) xs) (hx : a.eval x = .slice (some ⟨W.heap.size, 0, none⟩) m c) (hn : xs.length + m ≤ 2000000) (h0 : 0 < m)
    (hK : ∀ v' w', dg.Bw base w' v' (xs ++ ys) → Below base W w' → wpList Tryd.prog ops Q rest (a.put o.dst v') w') : wpList Tryd.prog ops Q (o :: rest) a (W.alloc (.cells cs 5)) := by
  subst hcs
  obtain ⟨g, cap, hv, h1, h2, h3, h4, h5⟩ := hxs
  have hB : Below W.heap.size W (W.alloc (.cells (nums .u8 ys).toArray 5)) := below_alloc (Below.refl _ _) _
  have hcg : ∀ j, (W.alloc (.cells (nums .u8 ys).toArray 5)).cell? ⟨g, j, none⟩ = W.cell? ⟨g, j, none⟩ := fun j => hB.cell (show (⟨g, j, none⟩ : Addr).block < _ from h5)
  have hfg : ∀ j, (W.alloc (.cells (nums .u8 ys).toArray 5)).frozen? ⟨g, j, none⟩ = W.frozen? ⟨g, j, none⟩ := fun j => dg.frozen_below hB (show (⟨g, j, none⟩ : Addr).block < _ from h5)
  have hnl : (nums .u8 ys).length = m := by rw [nums_length, hm]
  have hadd : ∀ j, (⟨g, 0 + j, none⟩ : Addr) = ⟨g, j, none⟩ := fun j => by rw [Nat.zero_add]
  obtain ⟨ti, ht1, ht2⟩ := Option.map_eq_some_iff.mp info5
  injection ht2 with hz1 ht3
  injection ht3 with hz2 hz3
  refine wpList_append_arg (W.alloc (.cells (nums .u8 ys).toArray 5)) hg s x 24 hop 5 ti (.int .u8 0) 1 1 Tryd.underlying24 ht1 hz1 hz2 hz3 rfl (by decide) g 0 xs.length cap (nums .u8 xs) hv ?_ ?_ ⟨W.heap.size, 0, none⟩ m c (nums .u8 ys) hx ?_ ?_ ?_ ?_ ?_ ?_ ?_ ?_
  · rw [nums_length, Nat.mul_one]
  · intro j u hj
    rw [hadd, hcg]
    have hjl : j < xs.length := by
      rcases Nat.lt_or_ge j xs.length with h | h
      · exact h
      · rw [List.getElem?_eq_none (by rw [nums_length]; exact h)] at hj; cases hj
    obtain rfl : Value.int .u8 xs[j] = u := by simpa [nums, hjl] using hj
    exact h3 j _ (List.getElem?_eq_getElem hjl)
  · rw [hnl, Nat.mul_one]
  · intro j u hj
    have ha : (⟨W.heap.size, 0, none⟩ : Addr).add j = ⟨W.heap.size, j, none⟩ := by unfold Addr.add; split <;> simp_all
    rw [ha]
    exact (blk_cell (cs := (nums .u8 ys).toArray) (t := 5) (blk_new W _) j).trans (by simpa using hj)
  · intro u hu
    obtain ⟨y, _, rfl⟩ := List.mem_map.mp hu
    rfl
  · intro hr j hj
    rw [Nat.zero_add, Nat.mul_one, hcg, hfg]
    exact h4 _ (by omega)
  · have : maxLen = 9223372036854775807 := rfl
    omega
  · omega
  · intro hr
    refine hK _ _ ⟨g, cap, by rw [List.length_append, hm], h1, by rw [List.length_append, hm]; exact hr, fun j x hj => ?_, fun j hj => ?_, ?_⟩ ?_
    · rw [Nat.zero_add, Nat.mul_one]
      by_cases hjl : j < xs.length
      · rw [World.cell?_setCells_out g _ _ _ _ (fun _ _ => Or.inl hjl), hcg]
        rw [List.getElem?_append_left hjl] at hj
        exact h3 j x hj
      · rw [List.getElem?_append_right (by omega)] at hj
        have hj2 : j - xs.length < ys.length := by
          rcases Nat.lt_or_ge (j - xs.length) ys.length with h | h
          · exact h
          · rw [List.getElem?_eq_none h] at hj; cases hj
        have := World.cell?_setCells_in g (nums .u8 ys) xs.length (W.alloc (.cells (nums .u8 ys).toArray 5)) (fun i hi => by rw [hcg]; exact (h4 _ (by omega)).1) (j - xs.length) (by rw [hnl]; omega)
        rw [show xs.length + (j - xs.length) = j by omega] at this
        rw [this]
        rw [List.getElem?_eq_getElem hj2] at hj
        cases hj
        simp [nums]
    · rw [Nat.zero_add, Nat.mul_one, World.frozen?_setCells, hfg]
      refine ⟨?_, (h4 j hj).2⟩
      by_cases hin : xs.length ≤ j ∧ j < xs.length + m
      · have := World.cell?_setCells_in g (nums .u8 ys) xs.length (W.alloc (.cells (nums .u8 ys).toArray 5)) (fun i hi => by rw [hcg]; exact (h4 _ (by omega)).1) (j - xs.length) (by rw [hnl]; omega)
        rw [show xs.length + (j - xs.length) = j by omega] at this
        rw [this]; rfl
      · rw [World.cell?_setCells_out g _ _ _ _ (fun _ _ => by rw [hnl]; show j < xs.length ∨ xs.length + m ≤ j; omega), hcg]
        exact (h4 j hj).1
    · refine Nat.lt_of_lt_of_le h5 (Nat.le_trans hB.size (dg.below_set (base := 0) (Nat.zero_le _) _ _ _).size)
    · exact (Below.trans_le_ hB hbs).trans (dg.below_set h1 _ _ _)
  · intro hr v' w' ho hgr
    have ho' : w'.ownsRow base 5 1 v' (xs.length + m) (nums .u8 (xs ++ ys)) := by
      have e : nums .u8 xs ++ nums .u8 ys = nums .u8 (xs ++ ys) := by simp [nums]
      rw [e] at ho
      refine ⟨ho.1, ho.2.imp_right ?_⟩
      rintro ⟨g, cap, cur, h1, h2, h3⟩
      exact ⟨g, cap, cur, h1, Nat.le_trans (Nat.le_trans hbs hB.size) h2, h3⟩
    refine hK _ _ (dg.Bw_own ho' (by omega)) ((Below.trans_le_ hB hbs).trans (dg.below_grown hgr (Nat.le_trans hbs hB.size)))
/-- A text's bytes. -/
def dg.bs (s : ByteArray) : List Int := s.data.toList.map fun b => (b.toNat : Int)
theorem dg.bs_length (s : ByteArray) : (dg.bs s).length = s.size := by simp [dg.bs]
theorem dg.Bw_conv (w : World) (s : ByteArray) : dg.Bw w.heap.size (Lib.bytesWorld w 5 s) (.slice (some ⟨w.heap.size, 0, none⟩) s.size (grownCap w s.size 0 5)) (dg.bs s) := by
  have hge : s.size ≤ grownCap w s.size 0 5 := grownCap_ge w s.size 0 5
  have hsz : (Lib.bytesCells w 5 s).size = grownCap w s.size 0 5 := by simp [Lib.bytesCells]; omega
  have hat := Lib.bytesWorld_at_new w 5 s
  refine ⟨w.heap.size, _, by rw [dg.bs_length], Nat.le_refl _, by rw [dg.bs_length]; exact hge, fun j x hx => ?_, fun j hj => ⟨?_, ?_⟩, by rw [Lib.bytesWorld_size]; omega⟩
  · have hj : j < s.size := by
      rcases Nat.lt_or_ge j s.size with h | h
      · exact h
      · rw [List.getElem?_eq_none (by rw [dg.bs_length]; exact h)] at hx; cases hx
    rw [Lib.bytesWorld_cell w 5 s j hj]
    have hj' : j < s.data.toList.length := by simpa using hj
    simp only [dg.bs, List.getElem?_map, List.getElem?_eq_getElem hj', Option.map_some, Option.some.injEq] at hx
    rw [← hx]
    simp [List.getD, List.getElem?_eq_getElem hj']
  · simp only [World.cell?, hat]
    simp [hsz, hj]
  · simp only [World.frozen?, hat]
    simp [hsz]; omega
theorem dg.str {base g : Nat} {W : World} {v : Value} {xs : List Int} (h : dg.Bw base W v xs) (hv : v.ownBlock = some g) (i n c : Nat) (hi : i + n ≤ xs.length) :
    (convert 24 9 (.slice (some ⟨g, i, none⟩) n c)).run Tryd.prog W = .ok (.string (strOfNums ((xs.drop i).take n))) W := by
  obtain ⟨g', cap', rfl, h1, h2, h3, h4, h5⟩ := h
  obtain rfl : g' = g := by simpa [Value.ownBlock] using hv
  refine run_convert_bytes_arg W 24 5 Tryd.underlying24 Tryd.underlying5 g' i n c ((xs.drop i).take n) (by simp; omega) (fun j hj => ?_) 9 Tryd.underlying9
  refine h3 (i + j) _ ?_
  have : i + j < xs.length := by omega
  simp [List.getD, hj, this]

end Go.Proofs.YtldhjbjbjoomcaaDoor.Q
