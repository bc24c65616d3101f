/- For each Go function that the laws of this text reach: a Lean function, and the proof that the Go function returns what the Lean function tells, wherever it tells some value. Written by a program of this session. -/
import Derived.Test.YtibnmnkembbgeaaKFnExactMetaActs0
import Derived.Test.YtibnmnkembbgeaaKFnExactMetaActs6
import Derived.Test.YtibnmnkembbgeaaKFnExactMetaActs10
namespace Go.Proofs.Ytibnmnkembbgeaa.Q
open Go.RowKit Go.Proofs.YtibnmnkembbgeaaW.PrintWords Go.Proofs.YtibnmnkembbgeaaW.PrintLast Go.Proofs.YtibnmnkembbgeaaW.PrintMore
attribute [local go_sem] max2_int min2_int max_two min_two max_three min_three max_four min_four Instr.field asAgg   -- for this text's walks alone
set_option linter.unusedVariables false
set_option linter.unusedSimpArgs false
/-! ### impl_FlashSync: function 20 -/
/-- A flash in memory of its own: at block g; both its rows are its own. -/
def FB (W : World) (base g : Nat) (S : List ByteArray) (D : List S92) : Prop :=
 ∃ v0 v1, W.heap[g]? = some (.cells #[v0, v1] 30 (0, 0)) ∧ base ≤ g ∧ Kd.R Kd.string 9 W base (fun _ => True) v0 S ∧ Kd.R k92 92 W base (fun _ => True) v1 D
theorem FB.below {W W1 : World} {base g : Nat} {S : List ByteArray} {D : List S92} (h : FB W base g S D) (hb : Below W.heap.size W W1) : FB W1 base g S D := by
 obtain ⟨v0, v1, h1, h2, h3, h4⟩ := h
 exact ⟨v0, v1, blk_below h1 hb, h2, Kd.R_below h3 hb, Kd.R_below h4 hb⟩
def impl_Flash_put (S : List ByteArray) (D : List S92) (at_ : Int) (d : ByteArray) : List S92 :=
 if 0 ≤ idxFrom (impl_Flash_dirty.is at_) D 0 then D.set (idxFrom (impl_Flash_dirty.is at_) D 0).toNat ⟨(rd_T92 D (idxFrom (impl_Flash_dirty.is at_) D 0)).f0, d⟩ else D ++ [⟨at_, d⟩]
theorem idxFrom_lt {α : Type} (p : α → Bool) : ∀ (l : List α) (i : Int), idxFrom p l i < i + l.length ∨ idxFrom p l i = -1 := by
 intro l
 induction l with
 | nil => intro i; exact .inr rfl
 | cons x r ih =>
  intro i
  rw [idxFrom]
  split
  ·
   left; simp only [List.length_cons]; omega
  ·
   rcases ih (i + 1) with h | h
   ·
    left; simp only [List.length_cons]; omega
   ·
    exact .inr h
set_option maxHeartbeats 8000000 in
set_option maxRecDepth 100000 in
theorem impl_Flash_write.calls (w0 : World) (base g : Nat) (S : List ByteArray) (D : List S92) (at_ : Int) (d : ByteArray) (w : World) (hF : FB w base g S D) (hB : Below base w0 w) (hbase : base ≤ w.heap.size) (hbig : D.length ≤ 1000000) :
  Calls Try.prog 92 #[.pointer (some ⟨g, 0, none⟩), .int .i64 at_, .string d] w fun e w' => e = .returned (.tuple #[]) ∧ FB w' base g S (impl_Flash_put S D at_ d) ∧ Below base w0 w' ∧ w.heap.size ≤ w'.heap.size := by
 have hu30 := Try.underlying30
 have hu92 := Try.underlying92
 obtain ⟨v0, v1, hblk, hge, hS, hD⟩ := hF
 obtain ⟨A0, c0, rfl, hc0, hC0⟩ := Kd.R_reads hS
 obtain ⟨A1, c1, rfl, hc1, hC1⟩ := Kd.R_reads hD
 have htch : impl_Flash_dirty.f S D at_ = some (idxFrom (impl_Flash_dirty.is at_) D 0) := by unfold impl_Flash_dirty.f; rw [if_pos (by omega)]
 unfold impl_Flash_put
 have hlt := idxFrom_lt (impl_Flash_dirty.is at_) D 0
 generalize idxFrom (impl_Flash_dirty.is at_) D 0 = ix at htch hlt ⊢
 have HT := zA_ htch
 have b0 := (blk_cell hblk 0).trans (rfl : _ = some (Value.slice A0 S.length c0))
 have b1 := (blk_cell hblk 1).trans (rfl : _ = some (Value.slice A1 D.length c1))
 have HBLK := zA_ hblk
 have HGE := zA_ hge
 have HS := zA_ hS
 have HD := zA_ hD
 have HB := zA_ hB
 have HBASE := zA_ hbase
 have HC0 := zA_ hc0
 have HC1 := zA_ hc1
 have HR0 := zA_ hC0
 have HR1 := zA_ hC1
 have HBIG := zA_ hbig
 clear hblk hge hS hD hB hbase hc0 hc1 hC0 hC1 htch hbig
 by_cases hix : 0 ≤ ix
 ·
  rw [if_pos hix]
  have hixb : decide (0 ≤ ix) = true := decide_eq_true hix
  have hixl : ix < (D.length : Int) := by omega
  have HIX := zA_ (And.intro hix hixl)
  clear hix hixl hlt
  go_enter Try.func92, Try.ntmps92
  go_wp2_with (fail)
  go_at_call 129
  refine (impl_Flash_dirty.calls A0 c0 S A1 c1 D at_ ix _ (by exact HR0.out) HC0.out (by exact HR1.out) HC1.out HT.out).mono ?_
  rintro e w2 ⟨rfl, hb2⟩
  have HB2 := zA_ (below_then HB.out HBASE.out hb2)
  have HSZ := zA_ hb2.size
  have hblk2 := blk_below HBLK.out hb2
  have HBLK2 := zA_ hblk2
  have HS2 := zA_ (Kd.R_below HS.out hb2)
  have hD2 := Kd.R_below HD.out hb2
  have b0 := (blk_cell hblk2 0).trans (rfl : _ = some (Value.slice A0 S.length c0))
  have b1 := (blk_cell hblk2 1).trans (rfl : _ = some (Value.slice A1 D.length c1))
  obtain ⟨gd, cp, ef, hged, hgdl, cells, hcells⟩ := Kd.R_form hD2 (by have := HIX.out; omega)
  cases ef
  obtain ⟨ce, hcl, hM, hcc, hfr⟩ := Kd.R_elem hD2 z92 ix HIX.out.1 HIX.out.2
  obtain rfl := k92_openM hM
  have HP := zA_ (Kd.R_seg hD2 ix HIX.out.1 HIX.out.2 (seg := [.string d]) (j := 1) hcl hcc (show 2 ≤ 2 from by decide) (x' := (⟨(rd_T92 D ix).f0, d⟩ : S92)) (k92_mkM _ _ _ (⟨(rd_T92 D ix).f0, d⟩ : S92)) (fun _ hk => hk))
  have i1 : w2.cell? ⟨gd, ix.toNat * 2 + 1, none⟩ = some _ := hcc 1 _ rfl
  have f1 : w2.frozen? ⟨gd, ix.toNat * 2 + 1, none⟩ = false := hfr 1
  have HNE := zA_ (Kd.R_ne hD2 hblk2 (by decide))
  have HD2 := zA_ hD2
  have HGD := zA_ hged
  have p0 : (0 : Int) ≤ ix := HIX.out.1
  have p1 : ix < (D.length : Int) := HIX.out.2
  clear hb2 hblk2 hcl hM hcc hfr hcells hgdl hged hD2
  go_wp2
  (first | go_end0 | ((try simp only [Exit.inBlock, Exit.then]); refine bodyPost_ret (results_none rfl _ _ _) rfl ?_))
  have hg : w2.grownBy (w2.setCell ⟨gd, ix.toNat * 2 + 1, none⟩ (.string d)) (some gd) := HP.out.2
  refine ⟨rfl, ⟨_, _, blk_grown HBLK2.out hg (by have := HNE.out; simpa [Value.ownBlock] using this), HGE.out, Kd.R_over HS2.out HD2.out (by decide) hg, HP.out.1⟩, HB2.out.setCell HGD.out _, ?_⟩
  have h1 := hg.size
  have h2 := HSZ.out
  omega
 ·
  rw [if_neg hix]
  have hixb : decide (0 ≤ ix) = false := decide_eq_false hix
  clear hix hlt
  go_enter Try.func92, Try.ntmps92
  go_wp2_with (fail)
  go_at_call 129
  refine (impl_Flash_dirty.calls A0 c0 S A1 c1 D at_ ix _ (by exact HR0.out) HC0.out (by exact HR1.out) HC1.out HT.out).mono ?_
  rintro e w2 ⟨rfl, hb2⟩
  have HB2 := zA_ (below_then HB.out HBASE.out hb2)
  have HBASE2 := zA_ (Nat.le_trans HBASE.out hb2.size)
  have HSZ := zA_ hb2.size
  have hblk2 := blk_below HBLK.out hb2
  have HBLK2 := zA_ hblk2
  have HS2 := zA_ (Kd.R_below HS.out hb2)
  have hD2 := Kd.R_below HD.out hb2
  have b0 := (blk_cell hblk2 0).trans (rfl : _ = some (Value.slice A0 S.length c0))
  have b1 := (blk_cell hblk2 1).trans (rfl : _ = some (Value.slice A1 D.length c1))
  have HNE := zA_ (Kd.R_ne hD2 hblk2 (by decide))
  have HD2 := zA_ hD2
  clear hb2 hD2 hblk2
  go_wp2_with ((with_reducible refine gate_builtin (b := .append) (xs := #[.tmp 26, .tmp 30]) rfl ?_); at_builtin; refine Kd.R_append k92 (w0 := w0) base rfl (.tmp 26) (.tmp 30) 28 92 (.agg #[.int .i64 0, .string ⟨#[]⟩]) 24 rfl Try.underlying28 info92 rfl (by decide) (by omega) (.slice A1 D.length c1) D (⟨at_, d⟩ : S92) [.int .i64 at_, .string d] (fun _ => True) (fun _ => False) rfl rfl ?aP (fun _ hk => hk.elim) ?aF ?aO ?aB ?aS ?aL ?_; (case aP => exact k92_mkM _ _ _ (⟨at_, d⟩ : S92)); (case aB => exact HB2.out); (case aF => exact (fun _ _ => trivial)); (case aO => exact HD2.out); (case aS => exact HBASE2.out); (case aL => have := HBIG.out; omega); intro v3 w3 ho hb hg hat; obtain ⟨A3, c3, rfl⟩ := Kd.R_slice ho; have HO3 := zA_ ho; have HB3 := zA_ hb; have HG3 := zA_ hg; have hblk3 := blk_grown HBLK2.out hg HNE.out; have HBLK3 := zA_ hblk3; have s1 := blk_cell hblk3 1; have s2 := blk_frozen hblk3 1; clear ho hb hg hat hblk3)
  (first | go_end0 | ((try simp only [Exit.inBlock, Exit.then]); refine bodyPost_ret (results_none rfl _ _ _) rfl ?_))
  refine ⟨rfl, ⟨_, _, by have := blk_set HBLK3.out 1 (.slice A3 (D ++ [(⟨at_, d⟩ : S92)]).length c3); simpa using this, HGE.out, Kd.R_set (Kd.R_over HS2.out HD2.out (by decide) HG3.out) HBLK3.out (by decide) 1 _, Kd.R_set HO3.out HBLK3.out (by decide) 1 _⟩, HB3.out.setCell HGE.out _, ?_⟩
  have h1 := HG3.out.size
  have h2 := HSZ.out
  simp
  omega

theorem FB.still {P : Program} {id : Nat} {Q : Exit → Act → World → Prop} {a : Act} {w : World} {l : List Oper} (n : Nat) (hm : P.follows .mixedOrders = true) (hB : Region.lexTailB .any l.toArray n = true)
  (h : wpStill P l.toArray w.drew (fun a' => wpList P l.toArray Q (l.drop n) a' w.drew) (l.take n) a) : (Code.region id l.toArray true).wp P Q a w := wp_region_still_tail n hm hB h
def impl_Flash_synced (S : List ByteArray) : List S92 → List ByteArray
 | [] => S
 | x :: r => impl_Flash_synced (S.set x.f0.toNat x.f1) r
set_option maxHeartbeats 8000000 in
set_option maxRecDepth 100000 in
theorem impl_Flash_sync.calls (w0 : World) (base g : Nat) (S : List ByteArray) (D : List S92) (w : World) (hF : FB w base g S D) (hB : Below base w0 w) (hbase : base ≤ w.heap.size) (hbig : D.length ≤ 1000000) (hat : ∀ x ∈ D, 0 ≤ x.f0 ∧ x.f0 < (S.length : Int)) :
  Calls Try.prog 80 #[.pointer (some ⟨g, 0, none⟩)] w fun e w' => e = .returned (.tuple #[]) ∧ FB w' base g (impl_Flash_synced S D) [] ∧ Below base w0 w' ∧ w.heap.size ≤ w'.heap.size := by
 have hu30 := Try.underlying30
 have hu92 := Try.underlying92
 obtain ⟨v0, v1, hblk, hge, hS, hD⟩ := hF
 obtain ⟨A0, c0, rfl, hc0, hC0⟩ := Kd.R_reads hS
 obtain ⟨A1, c1, rfl, hc1, hC1⟩ := Kd.R_reads hD
 have b0 := (blk_cell hblk 0).trans (rfl : _ = some (Value.slice A0 S.length c0))
 have b1 := (blk_cell hblk 1).trans (rfl : _ = some (Value.slice A1 D.length c1))
 have HBLK := zA_ hblk
 have HGE := zA_ hge
 have HS := zA_ hS
 have HD := zA_ hD
 have HB := zA_ hB
 have HBASE := zA_ hbase
 have HBIG := zA_ hbig
 have HAT := zA_ hat
 clear hblk hge hS hD hB hbase hc0 hc1 hC0 hC1 hbig hat
 go_enter Try.func80, Try.ntmps80
 go_wp2_with (fail)
 clear b0 b1
 go_loopg [3, 9] D.length (fun gg _ v9 wr => ∃ (kk : Nat) (S' : List ByteArray), v9 = .int .i64 kk ∧ Aside0 (kk ≤ D.length ∧ D.length - kk ≤ gg ∧ S'.length = S.length ∧ w.heap.size ≤ wr.heap.size) ∧ Aside0 (wr.heap[g]? = some (.cells #[.slice A0 S.length c0, .slice A1 D.length c1] 30 (0, 0))) ∧ Aside0 (Kd.R Kd.string 9 wr base (fun _ => True) (.slice A0 S.length c0) S') ∧ Aside0 (Kd.R k92 92 wr base (fun _ => True) (.slice A1 D.length c1) D) ∧ Aside0 (Below base w0 wr) ∧ Aside0 (impl_Flash_synced S D = impl_Flash_synced S' (D.drop kk)))
 case atStart => exact ⟨0, S, rfl, ⟨by omega⟩, HBLK, HS, HD, HB, ⟨rfl⟩⟩
 case round =>
  clear HBLK HS HD HB
  obtain ⟨kk, S', rfl, HN, HBLK, HS, HD, HB, HX⟩ := hrel
  by_cases hlt : kk < D.length
  ·
   have hltz : decide ((kk : Int) < (D.length : Int)) = true := decide_eq_true (by omega)
   have pk : (0 : Int) ≤ (kk : Int) := by omega
   have qk : (kk : Int) < (D.length : Int) := by omega
   have hC1 := (Kd.R_reads' HD.out).2.2
   obtain ⟨ad, rfl, hx0, hx1⟩ := at_T92 hC1 (kk : Int) pk qk
   have hy : rd_T92 D (kk : Int) = D[kk] := by simp [rd_T92, hlt]
   rw [hy] at hx0 hx1
   simp only [Int.toNat_natCast] at hx0 hx1
   have hax := HAT.out D[kk] (List.getElem_mem hlt)
   have HX2 := HX.out
   rw [idxFrom_drop D kk hlt, impl_Flash_synced] at HX2
   clear HX hy hC1
   generalize D[kk] = x at hx0 hx1 hax HX2
   have HX := zA_ HX2
   clear HX2
   obtain ⟨gs, cp, ef, hgs, hgsl, cells, hcells⟩ := Kd.R_form HS.out (by have := HN.out; omega)
   have hS'l := HN.out.2.2.1
   rw [hS'l] at ef
   cases ef
   have hSA := Kd.R_alloc HS.out (.cells #[.int .i64 x.f0, .string x.f1] 92)
   obtain ⟨ce, hcl, hM, hcc, hfr⟩ := Kd.R_elem hSA ByteArray.empty x.f0 hax.1 (by omega)
   have HP := zA_ (Kd.R_seg hSA x.f0 hax.1 (by omega) (seg := [.string x.f1]) (j := 0) (okp := fun _ => False) hcl hcc (Nat.le_refl 1) (x' := x.f1) (by obtain rfl := (show ce = [_] from hM); exact rfl) (fun _ hk => hk.elim))
   have HP1 := HP.out
   simp only [show Kd.string.sz = 1 from rfl, Nat.mul_one, Nat.add_zero] at hcc hfr HP1
   have HPP := zA_ HP1
   obtain rfl := (show ce = [_] from hM)
   have i0 := hcc 0 _ rfl
   have f0 := hfr 0
   simp only [Nat.add_zero] at i0 f0
   have hb0 : ∀ o, (wr.alloc o).cell? ⟨g, 0, none⟩ = some (.slice (some ⟨gs, 0, none⟩) S.length c0) := fun o => (blk_cell (blk_alloc HBLK.out o) 0).trans rfl
   have hb1 : ∀ o, (wr.alloc o).cell? ⟨g, 1, none⟩ = some (.slice (some ad) D.length c1) := fun o => (blk_cell (blk_alloc HBLK.out o) 1).trans rfl
   have px : (0 : Int) ≤ x.f0 := hax.1
   have qx : x.f0 < (S.length : Int) := hax.2
   have HGS := zA_ hgs
   have ek : wrap64 ((kk : Int) + 1) = ((kk + 1 : Nat) : Int) := by have := HBIG.out; unfold wrap64; omega
   have HBA := zA_ (HB.out.alloc (show base ≤ wr.heap.size by have := HN.out; have := HBASE.out; omega) (.cells #[.int .i64 x.f0, .string x.f1] 92))
   have HDA := zA_ (Kd.R_alloc HD.out (.cells #[.int .i64 x.f0, .string x.f1] 92))
   have HBLKA := zA_ (blk_alloc HBLK.out (.cells #[.int .i64 x.f0, .string x.f1] 92))
   have HSA := zA_ hSA
   have HNE := zA_ (Kd.R_ne hSA HBLKA.out (by decide))
   clear hSA hcl hM hcc hfr HP HP1 hgs hgsl hcells hax
   go_wp2
   refine FB.still 8 (by kernel_rfl) (by kernel_rfl) ?_
   simp only [List.take_succ_cons, List.take_zero, List.drop_succ_cons, List.drop_zero]
   repeat still_step
   refine wpStill_nil ?_
   go_wp2
   go_roundg (D.length - (kk + 1))
   case measure => have := HN.out; omega
   case rel =>
    have hg := HPP.out.2
    refine ⟨kk + 1, S'.set x.f0.toNat x.f1, by rw [ek], ⟨by omega, Nat.le_refl _, by rw [List.length_set]; exact HN.out.2.2.1, ?_⟩, ⟨blk_drew (blk_grown HBLKA.out hg (by have := HNE.out; simpa [Value.ownBlock] using this))⟩, ⟨Kd.R_drew HPP.out.1⟩, ⟨Kd.R_drew (Kd.R_over HDA.out HSA.out (by decide) hg)⟩, ⟨below_drew (HBA.out.setCell HGS.out _)⟩, ⟨by rw [HX.out]⟩⟩
    have h1 : (wr.alloc (.cells #[.int .i64 x.f0, .string x.f1] 92)).heap.size ≤ _ := hg.size
    have h2 := HN.out
    simp only [World.alloc, Array.size_push] at h1
    exact Nat.le_trans (show w.heap.size ≤ wr.heap.size + 1 by omega) h1
  ·
   obtain rfl : kk = D.length := by have := HN.out; omega
   have hltz : decide ((D.length : Int) < (D.length : Int)) = false := decide_eq_false (by omega)
   have s1 := blk_cell HBLK.out 1
   have s2 := blk_frozen HBLK.out 1
   have HX2 := HX.out
   rw [List.drop_length, impl_Flash_synced] at HX2
   go_wp2
   (first | go_end0 | ((try simp only [Exit.inBlock, Exit.then]); refine bodyPost_ret (results_none rfl _ _ _) rfl ?_))
   (try rw [HX2])
   refine ⟨rfl, ⟨_, _, by have := blk_set HBLK.out 1 (.slice none 0 0); simpa using this, HGE.out, Kd.R_set HS.out HBLK.out (by decide) 1 _, Kd.R_nil _ _ _ _ _⟩, HB.out.setCell HGE.out _, ?_⟩
   have h2 := HN.out
   simp
   omega

theorem FB.out4 {α : Type} {d : Kd α} {e : Nat} {W : World} {base g : Nat} {cs : Array Value} {v : Value} {xs : List α} (h : d.R e W base (fun _ => True) v xs) (hb : W.heap[g]? = some (.cells cs 35 (0, 0))) (ht : ∀ q, q ∈ e :: d.E → q ≠ 35) (a b c f : Value) :
  d.R e ((((W.setCell ⟨g, 0, none⟩ a).setCell ⟨g, 1, none⟩ b).setCell ⟨g, 2, none⟩ c).setCell ⟨g, 3, none⟩ f) base (fun _ => True) v xs :=
 Kd.R_mono (Kd.R_far (p := ⟨g, 3, none⟩) (Kd.R_far (p := ⟨g, 2, none⟩) (Kd.R_far (p := ⟨g, 1, none⟩) (Kd.R_far (p := ⟨g, 0, none⟩) (Kd.R_types h hb ht) (fun _ hk => hk.2) a) (fun _ hk => hk.2) b) (fun _ hk => hk.2) c) (fun _ hk => hk.2) f) (fun _ _ => trivial)

def impl_FlashSync.okD (S : List ByteArray) (D : List S92) : Bool := decide (D.length ≤ 1000000) && D.all (fun x => decide (0 ≤ x.f0 ∧ x.f0 < (S.length : Int)))
def impl_FlashSync.f (l0_0 : List ByteArray) (l0_1 : List S92) : Option (List ByteArray × List S92 × ByteArray × Int) :=
 (impl_isFlash.f l0_0 l0_1).bind fun t => (if t = true then ((impl_cloneFlash.f l0_0 l0_1).bind fun c => (if impl_FlashSync.okD c.1 c.2 = true then some (impl_Flash_synced c.1 c.2, ([] : List S92), (⟨#[]⟩ : ByteArray), (0 : Int)) else none)) else some (([] : List ByteArray), ([] : List S92), (⟨#[]⟩ : ByteArray), (1 : Int)))
set_option maxHeartbeats 8000000 in
set_option maxRecDepth 100000 in
theorem impl_FlashSync.calls (A0_0 : Option Addr) (c0_0 : Nat) (l0_0 : List ByteArray) (A0_1 : Option Addr) (c0_1 : Nat) (l0_1 : List S92) (r1 : List ByteArray) (r2 : List S92) (r3 : ByteArray) (r4 : Int) (w : World) (hr0_0 : Kd.C Kd.string w A0_0 l0_0.length l0_0) (hc0_0 : l0_0.length ≤ c0_0) (hr0_1 : Kd.C k92 w A0_1 l0_1.length l0_1) (hc0_1 : l0_1.length ≤ c0_1) (h : impl_FlashSync.f l0_0 l0_1 = some (r1, r2, r3, r4)) :
  Calls Try.prog 20 #[.agg #[.slice A0_0 l0_0.length c0_0, .slice A0_1 l0_1.length c0_1]] w fun e w' => ∃ v0_ v1_ : Value, e = .returned (.agg #[v0_, v1_, .string r3, .int .i64 r4]) ∧ Kd.R Kd.string 9 w' w.heap.size (fun _ => True) v0_ r1 ∧ Kd.R k92 92 w' w.heap.size (fun _ => True) v1_ r2 ∧ Below w.heap.size w w' := by
 unfold impl_FlashSync.f at h
 have hu30 := Try.underlying30
 have hu35 := Try.underlying35
 obtain ⟨t, ht, h⟩ := Option.bind_eq_some_iff.1 h
 have HF := zA_ ht
 clear ht
 have HR0 := zA_ hr0_0
 have HC0 := zA_ hc0_0
 have HR1 := zA_ hr0_1
 have HC1 := zA_ hc0_1
 clear hr0_0 hc0_0 hr0_1 hc0_1
 have HX0 := zA_ (blk_alloc (blk_new w (.cells #[.slice A0_0 l0_0.length c0_0, .slice A0_1 l0_1.length c0_1] 30)) (.cells #[.slice none 0 0, .slice none 0 0, .string ⟨#[]⟩, .int .i64 0] 35))
 have hx1_ := blk_new (w.alloc (.cells #[.slice A0_0 l0_0.length c0_0, .slice A0_1 l0_1.length c0_1] 30)) (.cells #[.slice none 0 0, .slice none 0 0, .string ⟨#[]⟩, .int .i64 0] 35)
 rw [show (w.alloc (.cells #[.slice A0_0 l0_0.length c0_0, .slice A0_1 l0_1.length c0_1] 30)).heap.size = w.heap.size + 1 from by simp] at hx1_
 have HX1 := zA_ hx1_
 clear hx1_
 have HW0 := zA_ (show Below w.heap.size w ((w.alloc (.cells #[.slice A0_0 l0_0.length c0_0, .slice A0_1 l0_1.length c0_1] 30)).alloc (.cells #[.slice none 0 0, .slice none 0 0, .string ⟨#[]⟩, .int .i64 0] 35)) from below_alloc (below_alloc (Below.refl _ _) _) _)
 cases t with
 | true =>
  simp only [if_true] at h
  obtain ⟨c, hc, h⟩ := Option.bind_eq_some_iff.1 h
  obtain ⟨cS, cD⟩ := c
  by_cases hok : impl_FlashSync.okD cS cD = true
  ·
   simp only [hok, if_true, Option.some.injEq, Prod.mk.injEq] at h
   obtain ⟨rfl, rfl, rfl, rfl⟩ := h
   unfold impl_FlashSync.okD at hok
   simp only [Bool.and_eq_true, decide_eq_true_eq, List.all_eq_true] at hok
   have HOK := zA_ hok
   have HCL := zA_ hc
   clear hok hc
   go_enter Try.func20, Try.ntmps20
   go_wp2_with (fail)
   go_at_call 74
   refine (impl_isFlash.calls A0_0 c0_0 l0_0 A0_1 c0_1 l0_1 true _ (Kd.C_below HR0.out HW0.out) HC0.out (Kd.C_below HR1.out HW0.out) HC1.out HF.out).mono ?_
   rintro e w1 ⟨rfl, hb1⟩
   have HB1 := zA_ (below_step HW0.out hb1)
   have hx0 := blk_below (by exact HX0.out) hb1
   have hx1 := blk_below (by exact HX1.out) hb1
   have HX01 := zA_ hx0
   have HX11 := zA_ hx1
   clear hb1
   have b0 := (blk_cell HX01.out 0).trans (rfl : _ = some (Value.slice A0_0 l0_0.length c0_0))
   have b1 := (blk_cell HX01.out 1).trans (rfl : _ = some (Value.slice A0_1 l0_1.length c0_1))
   clear hx0 hx1
   go_wp2_with (fail)
   go_at_call 79
   refine (impl_cloneFlash.calls A0_0 c0_0 l0_0 A0_1 c0_1 l0_1 cS cD _ (by repeat (first | exact (Kd.C_below HR0.out HB1.out) | (with_reducible refine Kd.C_drewN ?_ _))) HC0.out (by repeat (first | exact (Kd.C_below HR1.out HB1.out) | (with_reducible refine Kd.C_drewN ?_ _))) HC1.out HCL.out).mono ?_
   rintro e w2 ⟨v0, v1, rfl, hS, hD, hb2⟩
   obtain ⟨As, cs, rfl⟩ := Kd.R_slice hS
   obtain ⟨Ad, cd, rfl⟩ := Kd.R_slice hD
   have HFB := zA_ (show FB (w2.alloc (.cells #[.slice As cS.length cs, .slice Ad cD.length cd] 30)) w1.heap.size w2.heap.size cS cD from ⟨_, _, blk_new _ _, hb2.size, Kd.R_alloc hS _, Kd.R_alloc hD _⟩)
   have HB2 := zA_ (show Below w1.heap.size w1 (w2.alloc (.cells #[.slice As cS.length cs, .slice Ad cD.length cd] 30)) from below_alloc hb2 _)
   clear hS hD hb2
   go_wp2_with (fail)
   go_at_call 80
   refine (impl_Flash_sync.calls w1 w1.heap.size _ cS cD _ (by exact HFB.out) (by exact HB2.out) HB2.out.size HOK.out.1 HOK.out.2).mono ?_
   rintro e w3 ⟨rfl, hF3, hb3, _⟩
   obtain ⟨u0, u1, hk3, hg3, hS3, hD3⟩ := hF3
   obtain ⟨Au, cu, rfl⟩ := Kd.R_slice hS3
   obtain ⟨Av, cv, rfl⟩ := Kd.R_slice hD3
   have e0 := (blk_cell hk3 0).trans (rfl : _ = some (Value.slice Au _ cu))
   have e1 := (blk_cell hk3 1).trans (rfl : _ = some (Value.slice Av _ cv))
   have hx3 := (hb3.block (w.heap.size + 1) (blk_lt HX11.out)).trans HX11.out
   have HX3 := zA_ hx3
   have HS3 := zA_ hS3
   have HD3 := zA_ hD3
   have HB3 := zA_ (below_step HB1.out hb3)
   have oc0 := blk_cell hx3 0
   have of0 := blk_frozen hx3 0
   have oc1 := blk_cell hx3 1
   have of1 := blk_frozen hx3 1
   have oc2 := blk_cell hx3 2
   have of2 := blk_frozen hx3 2
   have oc3 := blk_cell hx3 3
   have of3 := blk_frozen hx3 3
   clear hk3 hg3 hS3 hD3 hb3 hx3
   go_wp2
   refine bodyPost_ret (results_cell_row rfl _ _ (w.heap.size + 1) 35 #[.slice Au (impl_Flash_synced cS cD).length cu, .slice Av ([] : List S92).length cv, .string ⟨#[]⟩, .int .i64 0] (0, 0) _ rfl (by refine blk_put (cs := #[.slice Au (impl_Flash_synced cS cD).length cu, .slice Av ([] : List S92).length cv, .string ⟨#[]⟩, .int .i64 0]) ?_ 3 _ rfl; refine blk_put (cs := #[.slice Au (impl_Flash_synced cS cD).length cu, .slice Av ([] : List S92).length cv, .string ⟨#[]⟩, .int .i64 0]) ?_ 2 _ rfl; refine blk_put (cs := #[.slice Au (impl_Flash_synced cS cD).length cu, .slice none 0 0, .string ⟨#[]⟩, .int .i64 0]) ?_ 1 _ rfl; refine blk_put (cs := #[.slice none 0 0, .slice none 0 0, .string ⟨#[]⟩, .int .i64 0]) ?_ 0 _ rfl; (repeat (first | exact HX3.out | refine blk_drewN ?_ _ | refine blk_drew ?_))) Try.underlying35 rfl (by kernel_rfl)) rfl ?_
   exact ⟨_, _, rfl, Kd.R_lower (FB.out4 HS3.out HX3.out (by decide) _ _ _ _) HB1.out.size, Kd.R_lower (FB.out4 HD3.out HX3.out (by decide) _ _ _ _) HB1.out.size, ((((show Below w.heap.size w _ from by first | exact HB3.out | exact pw_below_drewN HB3.out _).setCell (Nat.le_succ _) _).setCell (Nat.le_succ _) _).setCell (Nat.le_succ _) _).setCell (Nat.le_succ _) _⟩
  ·
   simp only [hok] at h; cases h
 | false =>
  simp only [Bool.false_eq_true, if_false, Option.some.injEq, Prod.mk.injEq] at h
  obtain ⟨rfl, rfl, rfl, rfl⟩ := h
  go_enter Try.func20, Try.ntmps20
  go_wp2_with (fail)
  go_at_call 74
  refine (impl_isFlash.calls A0_0 c0_0 l0_0 A0_1 c0_1 l0_1 false _ (Kd.C_below HR0.out HW0.out) HC0.out (Kd.C_below HR1.out HW0.out) HC1.out HF.out).mono ?_
  rintro e w1 ⟨rfl, hb1⟩
  have HB1 := zA_ (below_step HW0.out hb1)
  have hx0 := blk_below (by exact HX0.out) hb1
  have hx1 := blk_below (by exact HX1.out) hb1
  have HX01 := zA_ hx0
  have HX11 := zA_ hx1
  clear hb1
  have oc0 := blk_cell hx1 0
  have of0 := blk_frozen hx1 0
  have oc1 := blk_cell hx1 1
  have of1 := blk_frozen hx1 1
  have oc2 := blk_cell hx1 2
  have of2 := blk_frozen hx1 2
  have oc3 := blk_cell hx1 3
  have of3 := blk_frozen hx1 3
  clear hx0 hx1
  go_wp2
  refine bodyPost_ret (results_cell_row rfl _ _ (w.heap.size + 1) 35 #[.slice none 0 0, .slice none 0 0, .string ⟨#[]⟩, .int .i64 1] (0, 0) _ rfl (by refine blk_put (cs := #[.slice none 0 0, .slice none 0 0, .string ⟨#[]⟩, .int .i64 0]) ?_ 3 _ rfl; refine blk_put (cs := #[.slice none 0 0, .slice none 0 0, .string ⟨#[]⟩, .int .i64 0]) ?_ 2 _ rfl; refine blk_put (cs := #[.slice none 0 0, .slice none 0 0, .string ⟨#[]⟩, .int .i64 0]) ?_ 1 _ rfl; refine blk_put (cs := #[.slice none 0 0, .slice none 0 0, .string ⟨#[]⟩, .int .i64 0]) ?_ 0 _ rfl; (repeat (first | exact HX11.out | refine blk_drewN ?_ _ | refine blk_drew ?_))) Try.underlying35 rfl (by kernel_rfl)) rfl ?_
  exact ⟨_, _, rfl, Kd.R_nil _ _ _ _ _, Kd.R_nil _ _ _ _ _, ((((show Below w.heap.size w _ from by first | exact HB1.out | exact pw_below_drewN HB1.out _).setCell (Nat.le_succ _) _).setCell (Nat.le_succ _) _).setCell (Nat.le_succ _) _).setCell (Nat.le_succ _) _⟩


end Go.Proofs.Ytibnmnkembbgeaa.Q
