import Derived.Lib.Bytealg
import Derived.Test.YtldhjbjbjoomcaaDoorDgBytes
import Derived.Test.YtldhjbjbjoomcaaDoorQx0
import Derived.Test.YtldhjbjbjoomcaaDoorQx1
import Derived.Test.YtldhjbjbjoomcaaDoorQx2
namespace Go.Proofs.YtldhjbjbjoomcaaDoor.Q
open Go.RowKit Go.Proofs.YtldhjbjbjoomcaaDoorW.PrintWords Go.Proofs.YtldhjbjbjoomcaaDoorW.PrintLast Go.Proofs.YtldhjbjbjoomcaaDoorW.PrintMore
attribute [local go_sem] max2_int min2_int max_two min_two max_three min_three max_four min_four Instr.field asAgg   -- for this text's walks alone
set_option linter.unusedVariables false
set_option linter.unusedSimpArgs false
theorem dg.or_comm (x y : Int) : Go.bits .or .u32 x y = Go.bits .or .u32 y x := by simp only [Go.bits, BitVec.or_comm]
theorem dg.specTurn (x : Int) (k : Nat) (K : Int) (hK : K = (k : Int)) (h0 : 0 < k) (h1 : k < 32) : spec_l02Turn.f x K = some (dg.tn x k) := by
  subst hK
  have e : IntKind.u64.wrap (32 - (k : Int)) = 32 - (k : Int) := by simp [IntKind.wrap, IntKind.bits, IntKind.signed]; omega
  unfold spec_l02Turn.f dg.tn
  rw [e, if_pos (by omega), if_pos (by omega), dg.or_comm]
  have hk : (0 : Int) ≤ (k : Int) := by omega
  have hk2 : (0 : Int) ≤ 32 - (k : Int) := by omega
  have e1 : shl .u32 x (32 - (k : Int)) = x * 2 ^ (32 - k) % 4294967296 := by
    rw [show (32 : Int) - (k : Int) = ((32 - k : Nat) : Int) by omega]
    simp [shl, go_sem, IntKind.wrap, IntKind.bits, IntKind.signed]
    try omega
  have e2 : shr .u32 x (k : Int) = x / 2 ^ k := by
    simp [shr, go_sem, IntKind.wrap, IntKind.bits, IntKind.signed]
    rw [show min k 32 = k by omega]
  rw [e1, e2]
/-- The eight bytes of a length, the first j. -/
def dg.l8 (n : Int) : Nat → List Int
  | 0 => []
  | j + 1 => dg.l8 n j ++ [n / 2 ^ (56 - 8 * j) % 256]
theorem dg.l8_length (n : Int) : ∀ j, (dg.l8 n j).length = j
  | 0 => rfl
  | j + 1 => by rw [dg.l8, List.length_append, dg.l8_length n j]; rfl
def dg.pre (a0 : ByteArray) (i : Nat) : List Int := dg.bs a0 ++ [128] ++ List.replicate i 0
theorem dg.pre_length (a0 : ByteArray) (i : Nat) : (dg.pre a0 i).length = a0.size + 1 + i := by simp [dg.pre, dg.bs_length]; omega
theorem dg.pre_step (a0 : ByteArray) (i : Nat) : dg.pre a0 i ++ [0] = dg.pre a0 (i + 1) := by simp [dg.pre, List.replicate_succ']
def dg.ol (S : List Int) : Nat → List Int
  | 0 => []
  | i + 1 => dg.ol S i ++ [rd S (i : Int) / 16777216 % 256, rd S (i : Int) / 65536 % 256, rd S (i : Int) / 256 % 256, rd S (i : Int) % 256]
theorem dg.ol_length (S : List Int) : ∀ i, (dg.ol S i).length = 4 * i
  | 0 => rfl
  | i + 1 => by rw [dg.ol, List.length_append, dg.ol_length S i]; rfl
theorem dg.ext {a b : ByteArray} (h : a.data.toList = b.data.toList) : a = b := by
  cases a; cases b; congr; exact Array.toList_inj.mp h
theorem dg.son_append (xs ys : List Int) : strOfNums (xs ++ ys) = strOfNums xs ++ strOfNums ys := by
  apply dg.ext; simp [strOfNums]
theorem dg.son_bs (s : ByteArray) : strOfNums (dg.bs s) = s := by
  apply dg.ext
  rw [strOfNums_data, dg.bs, List.map_map]
  conv => rhs; rw [← List.map_id s.data.toList]
  apply List.map_congr_left
  intro b _
  simp
theorem dg.son_zeros : ∀ n, strOfNums (List.replicate n 0) = dg.zeros n := by
  intro n
  apply dg.ext
  rw [strOfNums_data]
  show _ = (Lib.repeatL _ n).toArray.toList
  rw [List.toList_toArray]
  induction n with
  | zero => rfl
  | succ n ih => rw [List.replicate_succ, List.map_cons, ih]; rfl
theorem dg.all_eq (a0 : ByteArray) : strOfNums (dg.pre a0 (dg.pad a0) ++ dg.l8 (8 * (a0.size : Int)) 8) = dg.all a0 := by
  rw [dg.son_append, dg.pre, dg.son_append, dg.son_append, dg.son_bs, dg.son_zeros, dg.all]
  congr 1
  generalize 8 * (a0.size : Int) = n
  unfold dg.w8b
  congr 1
  simp only [dg.l8, List.nil_append, List.cons_append]
  simp
  omega
theorem dg.cut (L : List Int) (i n : Nat) (h : i + n ≤ L.length) : strOfNums ((L.drop i).take n) = (strOfNums L).extract i (i + n) := by
  apply dg.ext
  rw [strOfNums_data, ByteArray.data_extract]
  simp [strOfNums, List.map_take, List.map_drop]
theorem dg.len8 {xs : List Int} (h : xs.length = 8) : ∃ a b c d e f g i, xs = [a, b, c, d, e, f, g, i] := by
  match xs, h with
  | [a, b, c, d, e, f, g, i], _ => exact ⟨a, b, c, d, e, f, g, i, rfl⟩
theorem dg.add8 (xs vs : List Int) (h : xs.length = 8) : dg.add xs vs 8 = [(rd xs 0 + rd vs 0) % 4294967296, (rd xs 1 + rd vs 1) % 4294967296, (rd xs 2 + rd vs 2) % 4294967296, (rd xs 3 + rd vs 3) % 4294967296, (rd xs 4 + rd vs 4) % 4294967296, (rd xs 5 + rd vs 5) % 4294967296, (rd xs 6 + rd vs 6) % 4294967296, (rd xs 7 + rd vs 7) % 4294967296] := by
  obtain ⟨a, b, c, d, e, f, g, i, rfl⟩ := dg.len8 h
  rfl
theorem dg.after_range (t : ByteArray) (i : Nat) : ∀ x ∈ dg.after t i, 0 ≤ x ∧ x < 4294967296 := by
  cases i with
  | zero => show ∀ x ∈ dg.start, 0 ≤ x ∧ x < 4294967296; decide
  | succ i =>
    rw [dg.after, dg.block, dg.add8 _ _ (dg.after_length t i)]
    intro x hx
    simp only [List.mem_cons, List.not_mem_nil, or_false] at hx
    rcases hx with rfl | rfl | rfl | rfl | rfl | rfl | rfl | rfl <;> omega
theorem dg.rd_range {S : List Int} (hr : ∀ x ∈ S, 0 ≤ x ∧ x < 4294967296) (i : Int) : 0 ≤ rd S i ∧ rd S i < 4294967296 := by
  unfold rd
  by_cases h : i.toNat < S.length
  · rw [List.getD_eq_getElem?_getD, List.getElem?_eq_getElem h]; exact hr _ (List.getElem_mem h)
  · rw [List.getD_eq_getElem?_getD, List.getElem?_eq_none (by omega)]; simp
theorem dg.ol_text (S : List Int) (hr : ∀ x ∈ S, 0 ≤ x ∧ x < 4294967296) : ∀ i, strOfNums (dg.ol S i) = dg.text S i
  | 0 => rfl
  | i + 1 => by
    have h := dg.rd_range hr (i : Int)
    rw [dg.ol, dg.son_append, dg.ol_text S hr i, dg.text]
    congr 1
    rw [show IntKind.u64.wrap (rd S (i : Int)) = rd S (i : Int) by simp only [IntKind.wrap, IntKind.bits, IntKind.signed]; simp; omega]
    unfold dg.w4b
    congr 1
    generalize rd S (i : Int) = n at h
    simp
    omega
theorem dg.bt_cut (b : ByteArray) (i j : Nat) (h : 4 * i + j < 64) (hb : b.size = 64) : bt (b.extract (4 * i) 64) (j : Int) = bt b ((4 * i + j : Nat) : Int) := by
  unfold bt
  rw [dif_pos (by rw [ByteArray.size_extract]; simp; omega), dif_pos (by simp; omega)]
  simp only [Int.toNat_natCast, ByteArray.getElem_extract]
theorem dg.l0_run (xs : List Int) (b : ByteArray) (hb : b.size = 64) : ∀ (m i K : Nat), i + m = 16 → spec_l02Block.l0 (K + 1 + m) xs b (dg.W b i) (i : Int) = spec_l02Block.l1 K xs (dg.W b 16) 16 := by
  intro m
  induction m with
  | zero => intro i K h; obtain rfl : i = 16 := by omega
            rw [Nat.add_zero, spec_l02Block.l0, if_neg (by decide)]
  | succ m ih =>
    intro i K h
    rw [show K + 1 + (m + 1) = K + 1 + m + 1 by omega, spec_l02Block.l0, if_pos (by omega)]
    have e0 : wrap64 (4 * (i : Int)) = ((4 * i + 0 : Nat) : Int) := by unfold wrap64; omega
    have e1 : wrap64 (((4 * i + 0 : Nat) : Int) + 1) = ((4 * i + 1 : Nat) : Int) := by unfold wrap64; omega
    have e2 : wrap64 (((4 * i + 0 : Nat) : Int) + 2) = ((4 * i + 2 : Nat) : Int) := by unfold wrap64; omega
    have e3 : wrap64 (((4 * i + 0 : Nat) : Int) + 3) = ((4 * i + 3 : Nat) : Int) := by unfold wrap64; omega
    have e4 : wrap64 ((i : Int) + 1) = ((i + 1 : Nat) : Int) := by unfold wrap64; omega
    have hl := dg.W_length b i
    rw [e0, e1, e2, e3, e4]
    rw [if_pos (by omega), if_pos (by omega), if_pos (by omega), if_pos (by omega), if_pos (by omega), if_pos (by omega), if_pos (by omega), if_pos (by omega), if_pos (by omega), if_pos (by omega)]
    rw [← ih (i + 1) K (by omega)]
    congr 1
    rw [dg.W, if_pos (by omega), dg.w4, Int.toNat_natCast]
    have c0 := dg.bt_cut b i 0 (by omega) hb
    have c1 := dg.bt_cut b i 1 (by omega) hb
    have c2 := dg.bt_cut b i 2 (by omega) hb
    have c3 := dg.bt_cut b i 3 (by omega) hb
    rw [← c0, ← c1, ← c2, ← c3]
    rfl
theorem dg.sT7 (x : Int) : spec_l02Turn.f x 7 = some (dg.tn x 7) := dg.specTurn x 7 7 rfl (by decide) (by decide)
theorem dg.sT18 (x : Int) : spec_l02Turn.f x 18 = some (dg.tn x 18) := dg.specTurn x 18 18 rfl (by decide) (by decide)
theorem dg.sT17 (x : Int) : spec_l02Turn.f x 17 = some (dg.tn x 17) := dg.specTurn x 17 17 rfl (by decide) (by decide)
theorem dg.sT19 (x : Int) : spec_l02Turn.f x 19 = some (dg.tn x 19) := dg.specTurn x 19 19 rfl (by decide) (by decide)
theorem dg.sT6 (x : Int) : spec_l02Turn.f x 6 = some (dg.tn x 6) := dg.specTurn x 6 6 rfl (by decide) (by decide)
theorem dg.sT11 (x : Int) : spec_l02Turn.f x 11 = some (dg.tn x 11) := dg.specTurn x 11 11 rfl (by decide) (by decide)
theorem dg.sT25 (x : Int) : spec_l02Turn.f x 25 = some (dg.tn x 25) := dg.specTurn x 25 25 rfl (by decide) (by decide)
theorem dg.sT2 (x : Int) : spec_l02Turn.f x 2 = some (dg.tn x 2) := dg.specTurn x 2 2 rfl (by decide) (by decide)
theorem dg.sT13 (x : Int) : spec_l02Turn.f x 13 = some (dg.tn x 13) := dg.specTurn x 13 13 rfl (by decide) (by decide)
theorem dg.sT22 (x : Int) : spec_l02Turn.f x 22 = some (dg.tn x 22) := dg.specTurn x 22 22 rfl (by decide) (by decide)
theorem dg.keys_f : spec_l02Keys.f = some dg.keys := rfl
theorem dg.l1_run (xs : List Int) (b : ByteArray) (h8 : xs.length = 8) (hr : ∀ x ∈ xs, 0 ≤ x ∧ x < 4294967296) : ∀ (m i K : Nat), 16 ≤ i → i + m = 64 → spec_l02Block.l1 (K + 1 + m) xs (dg.W b i) (i : Int) = spec_l02Block.l2 K xs (dg.W b 64) (rd xs 0) (rd xs 1) (rd xs 2) (rd xs 3) (rd xs 4) (rd xs 5) (rd xs 6) (rd xs 7) dg.keys 0 := by
  intro m
  induction m with
  | zero =>
    intro i K h16 h; obtain rfl : i = 64 := by omega
    rw [Nat.add_zero, spec_l02Block.l1, if_neg (by decide), h8]
    have hm : ∀ j, rd xs j % 4294967296 = rd xs j := fun j => by have := dg.rd_range hr j; omega
    simp only [hm]
    rw [if_pos (by decide), if_pos (by decide), if_pos (by decide), if_pos (by decide), if_pos (by decide), if_pos (by decide), if_pos (by decide), if_pos (by decide), dg.keys_f, Option.bind_some]
  | succ m ih =>
    intro i K h16 h
    rw [show K + 1 + (m + 1) = K + 1 + m + 1 by omega, spec_l02Block.l1, if_pos (by omega)]
    have e1 : wrap64 ((i : Int) - 15) = ((i - 15 : Nat) : Int) := by unfold wrap64; omega
    have e2 : wrap64 ((i : Int) - 2) = ((i - 2 : Nat) : Int) := by unfold wrap64; omega
    have e3 : wrap64 ((i : Int) - 16) = ((i - 16 : Nat) : Int) := by unfold wrap64; omega
    have e5 : wrap64 ((i : Int) - 7) = ((i - 7 : Nat) : Int) := by unfold wrap64; omega
    have e4 : wrap64 ((i : Int) + 1) = ((i + 1 : Nat) : Int) := by unfold wrap64; omega
    have hl := dg.W_length b i
    rw [e1, e2, e3, e4, e5]
    clear e1 e2 e3 e4 e5
    rw [if_pos (by omega), if_pos (by omega), if_pos (by omega), if_pos (by omega), if_pos (by omega), if_pos (by omega)]
    simp only [dg.sT7, dg.sT18, dg.sT17, dg.sT19, Option.bind_some]
    rw [if_pos (by omega), if_pos (by omega), if_pos (by omega), if_pos (by omega)]
    have hW : dg.W b (i + 1) = (dg.W b i).set i (dg.nxt (dg.W b i) i) := by rw [dg.W, if_neg (by omega)]
    rw [← ih (i + 1) K (by omega) (by omega), hW, dg.nxt, Int.toNat_natCast]
theorem dg.l2_run (xs ws : List Int) (hw : ws.length = 64) (s0 : dg.St) : ∀ (m i K : Nat) (s : dg.St), s = dg.rnds ws s0 i → i + m = 64 → spec_l02Block.l2 (K + 1 + m) xs ws s.a s.b s.c s.d s.e s.f s.g s.h dg.keys (i : Int) = spec_l02Block.l3 K xs (dg.out (dg.rnds ws s0 64)) [] 0 := by
  intro m
  induction m with
  | zero =>
    intro i K s hs h; obtain rfl : i = 64 := by omega
    rw [Nat.add_zero, spec_l02Block.l2, if_neg (by decide), ← hs]
    rfl
  | succ m ih =>
    intro i K s hs h
    have hk : dg.keys.length = 64 := rfl
    have e4 : wrap64 ((i : Int) + 1) = ((i + 1 : Nat) : Int) := by unfold wrap64; omega
    rw [show K + 1 + (m + 1) = K + 1 + m + 1 by omega, spec_l02Block.l2, if_pos (by omega), e4]
    clear e4
    simp only [dg.sT6, dg.sT11, dg.sT25, dg.sT2, dg.sT13, dg.sT22, Option.bind_some]
    rw [if_pos (by omega), if_pos (by omega), if_pos (by omega)]
    exact ih (i + 1) K (dg.rnd s (rd dg.keys (i : Int)) (rd ws (i : Int))) (by rw [dg.rnds, ← hs]) (by omega)
theorem dg.l3_run (K : Nat) (xs vs : List Int) (h8 : xs.length = 8) (hv : vs.length = 8) : spec_l02Block.l3 (K + 9) xs vs [] 0 = some (dg.add xs vs 8) := by
  rw [dg.add8 xs vs h8]
  simp only [spec_l02Block.l3, h8, hv, wrap64]
  simp
theorem dg.specBlock (xs : List Int) (b : ByteArray) (hx : xs.length = 8) (hr : ∀ x ∈ xs, 0 ≤ x ∧ x < 4294967296) (hb : b.size = 64) : ∃ K, spec_l02Block.f K xs b = some (dg.block xs b) := by
  refine ⟨(((0 + 9) + 1 + 64) + 1 + 48) + 1 + 16, ?_⟩
  rw [spec_l02Block.f, if_pos (by decide)]
  refine (dg.l0_run xs b hb 16 0 _ rfl).trans ?_
  refine (dg.l1_run xs b hx hr 48 16 _ (by decide) rfl).trans ?_
  refine (dg.l2_run xs (dg.W b 64) (dg.W_length b 64) (dg.init xs) 64 0 _ (dg.init xs) rfl rfl).trans ?_
  exact dg.l3_run 0 xs _ hx rfl

end Go.Proofs.YtldhjbjbjoomcaaDoor.Q
