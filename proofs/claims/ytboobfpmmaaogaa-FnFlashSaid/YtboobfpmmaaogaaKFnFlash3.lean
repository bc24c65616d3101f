/- What is written is read, no other sector is turned; what is synced stays when the power goes; an unsynced sector is then what it was, what was written, or a beginning of it; for every draw. Part 3. -/
import Derived.Test.YtboobfpmmaaogaaKFnFlash2
namespace Go.Proofs.Ytboobfpmmaaogaa.Q
open Go.RowKit Go.Proofs.YtboobfpmmaaogaaW.PrintWords Go.Proofs.YtboobfpmmaaogaaW.PrintLast Go.Proofs.YtboobfpmmaaogaaW.PrintMore
attribute [local go_sem] max2_int min2_int max_two min_two max_three min_three max_four min_four Instr.field asAgg
set_option linter.unusedVariables false
set_option linter.unusedSimpArgs false
set_option maxHeartbeats 8000000
set_option maxRecDepth 100000
def FB (W : World) (base g : Nat) (S : List ByteArray) (D : List S83) : Prop :=
 ∃ v0 v1, W.heap[g]? = some (.cells #[v0, v1] 26 (0, 0)) ∧ base ≤ g ∧ Kd.R Kd.string 9 W base (fun _ => True) v0 S ∧ Kd.R k83 83 W base (fun _ => True) v1 D
theorem FB.below {W W1 : World} {base g : Nat} {S : List ByteArray} {D : List S83} (h : FB W base g S D) (hb : Below W.heap.size W W1) : FB W1 base g S D := by
 obtain ⟨v0, v1, h1, h2, h3, h4⟩ := h
 exact ⟨v0, v1, blk_below h1 hb, h2, Kd.R_below h3 hb, Kd.R_below h4 hb⟩
def impl_Flash_put (S : List ByteArray) (D : List S83) (at_ : Int) (d : ByteArray) : List S83 :=
 if 0 ≤ idxFrom (impl_Flash_dirty.is at_) D 0 then D.set (idxFrom (impl_Flash_dirty.is at_) D 0).toNat ⟨(rd_T83 D (idxFrom (impl_Flash_dirty.is at_) D 0)).f0, d⟩ else D ++ [⟨at_, d⟩]
theorem idxFrom_lt {α : Type} (p : α → Bool) : ∀ (l : List α) (i : Int), idxFrom p l i < i + l.length ∨ idxFrom p l i = -1 := by
 intro l
 induction l with
 | nil => intro i; exact .inr rfl
 | cons x r ih =>
  intro i
  rw [idxFrom]
  split
  · left; simp only [List.length_cons]; omega
  · rcases ih (i + 1) with h | h
    · left; simp only [List.length_cons]; omega
    · exact .inr h
theorem impl_Flash_write.calls (w0 : World) (base g : Nat) (S : List ByteArray) (D : List S83) (at_ : Int) (d : ByteArray) (w : World) (hF : FB w base g S D) (hB : Below base w0 w) (hbase : base ≤ w.heap.size) (hbig : D.length ≤ 1000000) :
 Calls Try.prog 51 #[.pointer (some ⟨g, 0, none⟩), .int .i64 at_, .string d] w fun e w' => e = .returned (.tuple #[]) ∧ FB w' base g S (impl_Flash_put S D at_ d) ∧ Below base w0 w' ∧ w.heap.size ≤ w'.heap.size := by
 have hu30 := Try.underlying26
 have hu92 := Try.underlying83
 obtain ⟨v0, v1, hblk, hge, hS, hD⟩ := hF
 obtain ⟨A0, c0, rfl, hc0, hC0⟩ := Kd.R_reads hS
 obtain ⟨A1, c1, rfl, hc1, hC1⟩ := Kd.R_reads hD
 have htch : impl_Flash_dirty.f S D at_ = some (idxFrom (impl_Flash_dirty.is at_) D 0) := by unfold impl_Flash_dirty.f; rw [if_pos (by omega)]
 unfold impl_Flash_put
 have hlt := idxFrom_lt (impl_Flash_dirty.is at_) D 0
 generalize idxFrom (impl_Flash_dirty.is at_) D 0 = ix at htch hlt ⊢
 have HT := zA_ htch
 have b0 := (blk_cell hblk 0).trans (rfl : _ = some (Value.slice A0 S.length c0))
 have b1 := (blk_cell hblk 1).trans (rfl : _ = some (Value.slice A1 D.length c1))
 have HBLK := zA_ hblk
 have HGE := zA_ hge
 have HS := zA_ hS
 have HD := zA_ hD
 have HB := zA_ hB
 have HBASE := zA_ hbase
 have HC0 := zA_ hc0
 have HC1 := zA_ hc1
 have HR0 := zA_ hC0
 have HR1 := zA_ hC1
 have HBIG := zA_ hbig
 clear hblk hge hS hD hB hbase hc0 hc1 hC0 hC1 htch hbig
 by_cases hix : 0 ≤ ix
 · rw [if_pos hix]
   have hixb : decide (0 ≤ ix) = true := decide_eq_true hix
   have hixl : ix < (D.length : Int) := by omega
   have HIX := zA_ (And.intro hix hixl)
   clear hix hixl hlt
   go_enter Try.func51, Try.ntmps51
   go_wp2_with (fail)
   go_at_call 87
   refine (impl_Flash_dirty.calls A0 c0 S A1 c1 D at_ ix _ (by exact HR0.out) HC0.out (by exact HR1.out) HC1.out HT.out).mono ?_
   rintro e w2 ⟨rfl, hb2⟩
   have HB2 := zA_ (below_then HB.out HBASE.out hb2)
   have HSZ := zA_ hb2.size
   have hblk2 := blk_below HBLK.out hb2
   have HBLK2 := zA_ hblk2
   have HS2 := zA_ (Kd.R_below HS.out hb2)
   have hD2 := Kd.R_below HD.out hb2
   have b0 := (blk_cell hblk2 0).trans (rfl : _ = some (Value.slice A0 S.length c0))
   have b1 := (blk_cell hblk2 1).trans (rfl : _ = some (Value.slice A1 D.length c1))
   obtain ⟨gd, cp, ef, hged, hgdl, cells, hcells⟩ := Kd.R_form hD2 (by have := HIX.out; omega)
   cases ef
   obtain ⟨ce, hcl, hM, hcc, hfr⟩ := Kd.R_elem hD2 z83 ix HIX.out.1 HIX.out.2
   obtain rfl := k83_openM hM
   have HP := zA_ (Kd.R_seg hD2 ix HIX.out.1 HIX.out.2 (seg := [.string d]) (j := 1) hcl hcc (show 2 ≤ 2 from by decide) (x' := (⟨(rd_T83 D ix).f0, d⟩ : S83)) (k83_mkM _ _ _ (⟨(rd_T83 D ix).f0, d⟩ : S83)) (fun _ hk => hk))
   have i1 : w2.cell? ⟨gd, ix.toNat * 2 + 1, none⟩ = some _ := hcc 1 _ rfl
   have f1 : w2.frozen? ⟨gd, ix.toNat * 2 + 1, none⟩ = false := hfr 1
   have HNE := zA_ (Kd.R_ne hD2 hblk2 (by decide))
   have HD2 := zA_ hD2
   have HGD := zA_ hged
   have p0 : (0 : Int) ≤ ix := HIX.out.1
   have p1 : ix < (D.length : Int) := HIX.out.2
   clear hb2 hblk2 hcl hM hcc hfr hcells hgdl hged hD2
   go_wp2
   (first | go_end0 | ((try simp only [Exit.inBlock, Exit.then]); refine bodyPost_ret (results_none rfl _ _ _) rfl ?_))
   have hg : w2.grownBy (w2.setCell ⟨gd, ix.toNat * 2 + 1, none⟩ (.string d)) (some gd) := HP.out.2
   refine ⟨rfl, ⟨_, _, blk_grown HBLK2.out hg (by have := HNE.out; simpa [Value.ownBlock] using this), HGE.out, Kd.R_over HS2.out HD2.out (by decide) hg, HP.out.1⟩, HB2.out.setCell HGD.out _, ?_⟩
   have h1 := hg.size
   have h2 := HSZ.out
   omega
 · rw [if_neg hix]
   have hixb : decide (0 ≤ ix) = false := decide_eq_false hix
   clear hix hlt
   go_enter Try.func51, Try.ntmps51
   go_wp2_with (fail)
   go_at_call 87
   refine (impl_Flash_dirty.calls A0 c0 S A1 c1 D at_ ix _ (by exact HR0.out) HC0.out (by exact HR1.out) HC1.out HT.out).mono ?_
   rintro e w2 ⟨rfl, hb2⟩
   have HB2 := zA_ (below_then HB.out HBASE.out hb2)
   have HBASE2 := zA_ (Nat.le_trans HBASE.out hb2.size)
   have HSZ := zA_ hb2.size
   have hblk2 := blk_below HBLK.out hb2
   have HBLK2 := zA_ hblk2
   have HS2 := zA_ (Kd.R_below HS.out hb2)
   have hD2 := Kd.R_below HD.out hb2
   have b0 := (blk_cell hblk2 0).trans (rfl : _ = some (Value.slice A0 S.length c0))
   have b1 := (blk_cell hblk2 1).trans (rfl : _ = some (Value.slice A1 D.length c1))
   have HNE := zA_ (Kd.R_ne hD2 hblk2 (by decide))
   have HD2 := zA_ hD2
   clear hb2 hD2 hblk2
   go_wp2_with ((with_reducible refine gate_builtin (b := .append) (xs := #[.tmp 26, .tmp 30]) rfl ?_); at_builtin; refine Kd.R_append k83 (w0 := w0) base rfl (.tmp 26) (.tmp 30) 24 83 (.agg #[.int .i64 0, .string ⟨#[]⟩]) 24 rfl Try.underlying24 info83 rfl (by decide) (by omega) (.slice A1 D.length c1) D (⟨at_, d⟩ : S83) [.int .i64 at_, .string d] (fun _ => True) (fun _ => False) rfl rfl ?aP (fun _ hk => hk.elim) ?aF ?aO ?aB ?aS ?aL ?_; (case aP => exact k83_mkM _ _ _ (⟨at_, d⟩ : S83)); (case aB => exact HB2.out); (case aF => exact (fun _ _ => trivial)); (case aO => exact HD2.out); (case aS => exact HBASE2.out); (case aL => exact (by have := HBIG.out; omega)); intro v3 w3 ho hb hg hat; obtain ⟨A3, c3, rfl⟩ := Kd.R_slice ho; have HO3 := zA_ ho; have HB3 := zA_ hb; have HG3 := zA_ hg; have hblk3 := blk_grown HBLK2.out hg HNE.out; have HBLK3 := zA_ hblk3; have s1 := blk_cell hblk3 1; have s2 := blk_frozen hblk3 1; clear ho hb hg hat hblk3)
   (first | go_end0 | ((try simp only [Exit.inBlock, Exit.then]); refine bodyPost_ret (results_none rfl _ _ _) rfl ?_))
   refine ⟨rfl, ⟨_, _, (by have := blk_set HBLK3.out 1 (.slice A3 (D ++ [(⟨at_, d⟩ : S83)]).length c3); simpa using this), HGE.out, Kd.R_set (Kd.R_over HS2.out HD2.out (by decide) HG3.out) HBLK3.out (by decide) 1 _, Kd.R_set HO3.out HBLK3.out (by decide) 1 _⟩, HB3.out.setCell HGE.out _, ?_⟩
   have h1 := HG3.out.size
   have h2 := HSZ.out
   simp
   omega
theorem FB.still {P : Program} {id : Nat} {Q : Exit → Act → World → Prop} {a : Act} {w : World} {l : List Oper} (n : Nat) (hm : P.follows .mixedOrders = true) (hB : Region.lexTailB .any l.toArray n = true)
 (h : wpStill P l.toArray w.drew (fun a' => wpList P l.toArray Q (l.drop n) a' w.drew) (l.take n) a) : (Code.region id l.toArray true).wp P Q a w := wp_region_still_tail n hm hB h
def impl_Flash_synced (S : List ByteArray) : List S83 → List ByteArray
 | [] => S
 | x :: r => impl_Flash_synced (S.set x.f0.toNat x.f1) r
theorem impl_Flash_sync.calls (w0 : World) (base g : Nat) (S : List ByteArray) (D : List S83) (w : World) (hF : FB w base g S D) (hB : Below base w0 w) (hbase : base ≤ w.heap.size) (hbig : D.length ≤ 1000000) (hat : ∀ x ∈ D, 0 ≤ x.f0 ∧ x.f0 < (S.length : Int)) :
 Calls Try.prog 54 #[.pointer (some ⟨g, 0, none⟩)] w fun e w' => e = .returned (.tuple #[]) ∧ FB w' base g (impl_Flash_synced S D) [] ∧ Below base w0 w' ∧ w.heap.size ≤ w'.heap.size := by
 have hu30 := Try.underlying26
 have hu92 := Try.underlying83
 obtain ⟨v0, v1, hblk, hge, hS, hD⟩ := hF
 obtain ⟨A0, c0, rfl, hc0, hC0⟩ := Kd.R_reads hS
 obtain ⟨A1, c1, rfl, hc1, hC1⟩ := Kd.R_reads hD
 have b0 := (blk_cell hblk 0).trans (rfl : _ = some (Value.slice A0 S.length c0))
 have b1 := (blk_cell hblk 1).trans (rfl : _ = some (Value.slice A1 D.length c1))
 have HBLK := zA_ hblk
 have HGE := zA_ hge
 have HS := zA_ hS
 have HD := zA_ hD
 have HB := zA_ hB
 have HBASE := zA_ hbase
 have HBIG := zA_ hbig
 have HAT := zA_ hat
 clear hblk hge hS hD hB hbase hc0 hc1 hC0 hC1 hbig hat
 go_enter Try.func54, Try.ntmps54
 go_wp2_with (fail)
 clear b0 b1
 go_loopg [3, 9] D.length (fun gg _ v9 wr => ∃ (kk : Nat) (S' : List ByteArray), v9 = .int .i64 kk ∧ Aside0 (kk ≤ D.length ∧ D.length - kk ≤ gg ∧ S'.length = S.length ∧ w.heap.size ≤ wr.heap.size) ∧ Aside0 (wr.heap[g]? = some (.cells #[.slice A0 S.length c0, .slice A1 D.length c1] 26 (0, 0))) ∧ Aside0 (Kd.R Kd.string 9 wr base (fun _ => True) (.slice A0 S.length c0) S') ∧ Aside0 (Kd.R k83 83 wr base (fun _ => True) (.slice A1 D.length c1) D) ∧ Aside0 (Below base w0 wr) ∧ Aside0 (impl_Flash_synced S D = impl_Flash_synced S' (D.drop kk)))
 case atStart => exact ⟨0, S, rfl, ⟨(by omega)⟩, HBLK, HS, HD, HB, ⟨rfl⟩⟩
 case round =>
  clear HBLK HS HD HB
  obtain ⟨kk, S', rfl, HN, HBLK, HS, HD, HB, HX⟩ := hrel
  by_cases hlt : kk < D.length
  · have hltz : decide ((kk : Int) < (D.length : Int)) = true := decide_eq_true (by omega)
    have pk : (0 : Int) ≤ (kk : Int) := by omega
    have qk : (kk : Int) < (D.length : Int) := by omega
    have hC1 := (Kd.R_reads' HD.out).2.2
    obtain ⟨ad, rfl, hx0, hx1⟩ := at_T83 hC1 (kk : Int) pk qk
    have hy : rd_T83 D (kk : Int) = D[kk] := by simp [rd_T83, hlt]
    rw [hy] at hx0 hx1
    simp only [Int.toNat_natCast] at hx0 hx1
    have hax := HAT.out D[kk] (List.getElem_mem hlt)
    have HX2 := HX.out
    rw [idxFrom_drop D kk hlt, impl_Flash_synced] at HX2
    clear HX hy hC1
    generalize D[kk] = x at hx0 hx1 hax HX2
    have HX := zA_ HX2
    clear HX2
    obtain ⟨gs, cp, ef, hgs, hgsl, cells, hcells⟩ := Kd.R_form HS.out (by have := HN.out; omega)
    have hS'l := HN.out.2.2.1
    rw [hS'l] at ef
    cases ef
    have hSA := Kd.R_alloc HS.out (.cells #[.int .i64 x.f0, .string x.f1] 83)
    obtain ⟨ce, hcl, hM, hcc, hfr⟩ := Kd.R_elem hSA ByteArray.empty x.f0 hax.1 (by omega)
    have HP := zA_ (Kd.R_seg hSA x.f0 hax.1 (by omega) (seg := [.string x.f1]) (j := 0) (okp := fun _ => False) hcl hcc (Nat.le_refl 1) (x' := x.f1) (by obtain rfl := (show ce = [_] from hM); exact rfl) (fun _ hk => hk.elim))
    have HP1 := HP.out
    simp only [show Kd.string.sz = 1 from rfl, Nat.mul_one, Nat.add_zero] at hcc hfr HP1
    have HPP := zA_ HP1
    obtain rfl := (show ce = [_] from hM)
    have i0 := hcc 0 _ rfl
    have f0 := hfr 0
    simp only [Nat.add_zero] at i0 f0
    have hb0 : ∀ o, (wr.alloc o).cell? ⟨g, 0, none⟩ = some (.slice (some ⟨gs, 0, none⟩) S.length c0) := fun o => (blk_cell (blk_alloc HBLK.out o) 0).trans rfl
    have hb1 : ∀ o, (wr.alloc o).cell? ⟨g, 1, none⟩ = some (.slice (some ad) D.length c1) := fun o => (blk_cell (blk_alloc HBLK.out o) 1).trans rfl
    have px : (0 : Int) ≤ x.f0 := hax.1
    have qx : x.f0 < (S.length : Int) := hax.2
    have HGS := zA_ hgs
    have ek : wrap64 ((kk : Int) + 1) = ((kk + 1 : Nat) : Int) := by have := HBIG.out; unfold wrap64; omega
    have HBA := zA_ (HB.out.alloc (show base ≤ wr.heap.size by have := HN.out; have := HBASE.out; omega) (.cells #[.int .i64 x.f0, .string x.f1] 83))
    have HDA := zA_ (Kd.R_alloc HD.out (.cells #[.int .i64 x.f0, .string x.f1] 83))
    have HBLKA := zA_ (blk_alloc HBLK.out (.cells #[.int .i64 x.f0, .string x.f1] 83))
    have HSA := zA_ hSA
    have HNE := zA_ (Kd.R_ne hSA HBLKA.out (by decide))
    clear hSA hcl hM hcc hfr HP HP1 hgs hgsl hcells hax
    go_wp2
    refine FB.still 8 βPb βPb ?_
    simp only [List.take_succ_cons, List.take_zero, List.drop_succ_cons, List.drop_zero]
    repeat still_step
    refine wpStill_nil ?_
    go_wp2
    go_roundg (D.length - (kk + 1))
    case measure => have := HN.out; omega
    case rel =>
     have hg := HPP.out.2
     refine ⟨kk + 1, S'.set x.f0.toNat x.f1, (by rw [ek]), ⟨(by omega), Nat.le_refl _, (by rw [List.length_set]; exact HN.out.2.2.1), ?_⟩, ⟨blk_drew (blk_grown HBLKA.out hg (by have := HNE.out; simpa [Value.ownBlock] using this))⟩, ⟨Kd.R_drew HPP.out.1⟩, ⟨Kd.R_drew (Kd.R_over HDA.out HSA.out (by decide) hg)⟩, ⟨below_drew (HBA.out.setCell HGS.out _)⟩, ⟨(by rw [HX.out])⟩⟩
     have h1 : (wr.alloc (.cells #[.int .i64 x.f0, .string x.f1] 83)).heap.size ≤ _ := hg.size
     have h2 := HN.out
     simp only [World.alloc, Array.size_push] at h1
     exact Nat.le_trans (show w.heap.size ≤ wr.heap.size + 1 by omega) h1
  · obtain rfl : kk = D.length := by have := HN.out; omega
    have hltz : decide ((D.length : Int) < (D.length : Int)) = false := decide_eq_false (by omega)
    have s1 := blk_cell HBLK.out 1
    have s2 := blk_frozen HBLK.out 1
    have HX2 := HX.out
    rw [List.drop_length, impl_Flash_synced] at HX2
    go_wp2
    (first | go_end0 | ((try simp only [Exit.inBlock, Exit.then]); refine bodyPost_ret (results_none rfl _ _ _) rfl ?_))
    (try rw [HX2])
    refine ⟨rfl, ⟨_, _, (by have := blk_set HBLK.out 1 (.slice none 0 0); simpa using this), HGE.out, Kd.R_set HS.out HBLK.out (by decide) 1 _, Kd.R_nil _ _ _ _ _⟩, HB.out.setCell HGE.out _, ?_⟩
    have h2 := HN.out
    simp
    omega
theorem FB.out4 {α : Type} {d : Kd α} {e : Nat} {W : World} {base g : Nat} {cs : Array Value} {v : Value} {xs : List α} (h : d.R e W base (fun _ => True) v xs) (hb : W.heap[g]? = some (.cells cs 30 (0, 0))) (ht : ∀ q, q ∈ e :: d.E → q ≠ 30) (a b c f : Value) :
 d.R e ((((W.setCell ⟨g, 0, none⟩ a).setCell ⟨g, 1, none⟩ b).setCell ⟨g, 2, none⟩ c).setCell ⟨g, 3, none⟩ f) base (fun _ => True) v xs :=
 Kd.R_mono (Kd.R_far (p := ⟨g, 3, none⟩) (Kd.R_far (p := ⟨g, 2, none⟩) (Kd.R_far (p := ⟨g, 1, none⟩) (Kd.R_far (p := ⟨g, 0, none⟩) (Kd.R_types h hb ht) (fun _ hk => hk.2) a) (fun _ hk => hk.2) b) (fun _ hk => hk.2) c) (fun _ hk => hk.2) f) (fun _ _ => trivial)
def impl_FlashWrite.f (l0_0 : List ByteArray) (l0_1 : List S83) (a1 : Int) (a2 : ByteArray) : Option (List ByteArray × List S83 × ByteArray × Int) :=
 if (a2.size : Int) > 8000 then some (([] : List ByteArray), ([] : List S83), (⟨#[]⟩ : ByteArray), (2 : Int)) else
 (impl_isFlash.f l0_0 l0_1).bind fun t => (if t = true then (if (a2.size : Int) > 96 then some (([] : List ByteArray), ([] : List S83), (⟨#[]⟩ : ByteArray), (1 : Int)) else
  ((impl_Flash_has.f l0_0 l0_1 a1).bind fun t2 => (if t2 = true then ((impl_cloneFlash.f l0_0 l0_1).bind fun c => (if c.2.length ≤ 1000000 then some (c.1, impl_Flash_put c.1 c.2 a1 a2, (⟨#[]⟩ : ByteArray), (0 : Int)) else none)) else some (([] : List ByteArray), ([] : List S83), (⟨#[]⟩ : ByteArray), (8 : Int))))) else some (([] : List ByteArray), ([] : List S83), (⟨#[]⟩ : ByteArray), (1 : Int)))
theorem impl_FlashWrite.calls (A0_0 : Option Addr) (c0_0 : Nat) (l0_0 : List ByteArray) (A0_1 : Option Addr) (c0_1 : Nat) (l0_1 : List S83) (a1 : Int) (a2 : ByteArray) (r1 : List ByteArray) (r2 : List S83) (r3 : ByteArray) (r4 : Int) (w : World) (hr0_0 : Kd.C Kd.string w A0_0 l0_0.length l0_0) (hc0_0 : l0_0.length ≤ c0_0) (hr0_1 : Kd.C k83 w A0_1 l0_1.length l0_1) (hc0_1 : l0_1.length ≤ c0_1) (h : impl_FlashWrite.f l0_0 l0_1 a1 a2 = some (r1, r2, r3, r4)) :
 Calls Try.prog 6 #[.agg #[.slice A0_0 l0_0.length c0_0, .slice A0_1 l0_1.length c0_1], .int .i64 a1, .string a2] w fun e w' => ∃ v0_ v1_ : Value, e = .returned (.agg #[v0_, v1_, .string r3, .int .i64 r4]) ∧ Kd.R Kd.string 9 w' w.heap.size (fun _ => True) v0_ r1 ∧ Kd.R k83 83 w' w.heap.size (fun _ => True) v1_ r2 ∧ Below w.heap.size w w' := by
 unfold impl_FlashWrite.f at h
 have hu30 := Try.underlying26
 have hu35 := Try.underlying30
 have HR0 := zA_ hr0_0
 have HC0 := zA_ hc0_0
 have HR1 := zA_ hr0_1
 have HC1 := zA_ hc0_1
 clear hr0_0 hc0_0 hr0_1 hc0_1
 have HX0 := zA_ (blk_alloc (blk_new w (.cells #[.slice A0_0 l0_0.length c0_0, .slice A0_1 l0_1.length c0_1] 26)) (.cells #[.slice none 0 0, .slice none 0 0, .string ⟨#[]⟩, .int .i64 0] 30))
 have hx1_ := blk_new (w.alloc (.cells #[.slice A0_0 l0_0.length c0_0, .slice A0_1 l0_1.length c0_1] 26)) (.cells #[.slice none 0 0, .slice none 0 0, .string ⟨#[]⟩, .int .i64 0] 30)
 rw [show (w.alloc (.cells #[.slice A0_0 l0_0.length c0_0, .slice A0_1 l0_1.length c0_1] 26)).heap.size = w.heap.size + 1 from by simp] at hx1_
 have HX1 := zA_ hx1_
 clear hx1_
 have HW0 := zA_ (show Below w.heap.size w ((w.alloc (.cells #[.slice A0_0 l0_0.length c0_0, .slice A0_1 l0_1.length c0_1] 26)).alloc (.cells #[.slice none 0 0, .slice none 0 0, .string ⟨#[]⟩, .int .i64 0] 30)) from below_alloc (below_alloc (Below.refl _ _) _) _)
 by_cases h8 : (a2.size : Int) > 8000
 · rw [if_pos h8] at h
   simp only [Option.some.injEq, Prod.mk.injEq] at h
   obtain ⟨rfl, rfl, rfl, rfl⟩ := h
   have g0 : decide ((a2.size : Int) > 8000) = true := decide_eq_true h8
   have g1 : decide (8000 < a2.size) = true := decide_eq_true (by omega)
   clear h8
   have hx1 := HX1.out
   go_enter Try.func6, Try.ntmps6
   clear hx1
   go_wp2
   refine bodyPost_ret (results_cell_row rfl _ _ (w.heap.size + 1) 30 #[.slice none 0 0, .slice none 0 0, .string ⟨#[]⟩, .int .i64 2] (0, 0) _ rfl (by have h_ := blk_new (w.alloc (.cells #[.slice A0_0 l0_0.length c0_0, .slice A0_1 l0_1.length c0_1] 26)) (.cells #[.slice none 0 0, .slice none 0 0, .string ⟨#[]⟩, .int .i64 2] 30); rw [show (w.alloc (.cells #[.slice A0_0 l0_0.length c0_0, .slice A0_1 l0_1.length c0_1] 26)).heap.size = w.heap.size + 1 from by simp] at h_; exact h_) Try.underlying30 rfl βPb) rfl ?_
   exact ⟨_, _, rfl, Kd.R_nil _ _ _ _ _, Kd.R_nil _ _ _ _ _, below_alloc (below_alloc (Below.refl _ _) _) _⟩
 · rw [if_neg h8] at h
   have g0 : decide ((a2.size : Int) > 8000) = false := decide_eq_false h8
   have g1 : decide (8000 < a2.size) = false := decide_eq_false (by omega)
   obtain ⟨t, ht, h⟩ := Option.bind_eq_some_iff.1 h
   have HF := zA_ ht
   clear ht h8
   cases t with
   | false =>
    simp only [Bool.false_eq_true, if_false] at h
    simp only [Option.some.injEq, Prod.mk.injEq] at h
    obtain ⟨rfl, rfl, rfl, rfl⟩ := h
    go_enter Try.func6, Try.ntmps6
    go_wp2_with (fail)
    go_at_call 48
    refine (impl_isFlash.calls A0_0 c0_0 l0_0 A0_1 c0_1 l0_1 false _ (Kd.C_below HR0.out HW0.out) HC0.out (Kd.C_below HR1.out HW0.out) HC1.out HF.out).mono ?_
    rintro e w1 ⟨rfl, hb1⟩
    have HB1 := zA_ (below_step HW0.out hb1)
    have hx0 := blk_below (by exact HX0.out) hb1
    have hx1 := blk_below (by exact HX1.out) hb1
    have HX01 := zA_ hx0
    have HX11 := zA_ hx1
    clear hb1
    have oc0 := blk_cell hx1 0
    have of0 := blk_frozen hx1 0
    have oc1 := blk_cell hx1 1
    have of1 := blk_frozen hx1 1
    have oc2 := blk_cell hx1 2
    have of2 := blk_frozen hx1 2
    have oc3 := blk_cell hx1 3
    have of3 := blk_frozen hx1 3
    clear hx0 hx1
    go_wp2
    refine bodyPost_ret (results_cell_row rfl _ _ (w.heap.size + 1) 30 #[.slice none 0 0, .slice none 0 0, .string ⟨#[]⟩, .int .i64 1] (0, 0) _ rfl βr Try.underlying30 rfl βPb) rfl ?_
    exact ⟨_, _, rfl, Kd.R_nil _ _ _ _ _, Kd.R_nil _ _ _ _ _, ((((show Below w.heap.size w _ from by first | exact HB1.out | exact pw_below_drewN HB1.out _).setCell (Nat.le_succ _) _).setCell (Nat.le_succ _) _).setCell (Nat.le_succ _) _).setCell (Nat.le_succ _) _⟩
   | true =>
    simp only [if_true] at h
    by_cases h9 : (a2.size : Int) > 96
    · rw [if_pos h9] at h
      simp only [Option.some.injEq, Prod.mk.injEq] at h
      obtain ⟨rfl, rfl, rfl, rfl⟩ := h
      have g2 : decide ((a2.size : Int) > 96) = true := decide_eq_true h9
      have g3 : decide (96 < a2.size) = true := decide_eq_true (by omega)
      clear h9
      go_enter Try.func6, Try.ntmps6
      go_wp2_with (fail)
      go_at_call 48
      refine (impl_isFlash.calls A0_0 c0_0 l0_0 A0_1 c0_1 l0_1 true _ (Kd.C_below HR0.out HW0.out) HC0.out (Kd.C_below HR1.out HW0.out) HC1.out HF.out).mono ?_
      rintro e w1 ⟨rfl, hb1⟩
      have HB1 := zA_ (below_step HW0.out hb1)
      have hx0 := blk_below (by exact HX0.out) hb1
      have hx1 := blk_below (by exact HX1.out) hb1
      have HX01 := zA_ hx0
      have HX11 := zA_ hx1
      clear hb1
      have oc0 := blk_cell hx1 0
      have of0 := blk_frozen hx1 0
      have oc1 := blk_cell hx1 1
      have of1 := blk_frozen hx1 1
      have oc2 := blk_cell hx1 2
      have of2 := blk_frozen hx1 2
      have oc3 := blk_cell hx1 3
      have of3 := blk_frozen hx1 3
      clear hx0 hx1
      go_wp2
      refine bodyPost_ret (results_cell_row rfl _ _ (w.heap.size + 1) 30 #[.slice none 0 0, .slice none 0 0, .string ⟨#[]⟩, .int .i64 1] (0, 0) _ rfl βr Try.underlying30 rfl βPb) rfl ?_
      exact ⟨_, _, rfl, Kd.R_nil _ _ _ _ _, Kd.R_nil _ _ _ _ _, ((((show Below w.heap.size w _ from by first | exact HB1.out | exact pw_below_drewN HB1.out _).setCell (Nat.le_succ _) _).setCell (Nat.le_succ _) _).setCell (Nat.le_succ _) _).setCell (Nat.le_succ _) _⟩
    · rw [if_neg h9] at h
      have g2 : decide ((a2.size : Int) > 96) = false := decide_eq_false h9
      have g3 : decide (96 < a2.size) = false := decide_eq_false (by omega)
      obtain ⟨t2, ht2, h⟩ := Option.bind_eq_some_iff.1 h
      have HH := zA_ ht2
      clear ht2 h9
      cases t2 with
      | false =>
       simp only [Bool.false_eq_true, if_false] at h
       simp only [Option.some.injEq, Prod.mk.injEq] at h
       obtain ⟨rfl, rfl, rfl, rfl⟩ := h
       go_enter Try.func6, Try.ntmps6
       go_wp2_with (fail)
       go_at_call 48
       refine (impl_isFlash.calls A0_0 c0_0 l0_0 A0_1 c0_1 l0_1 true _ (Kd.C_below HR0.out HW0.out) HC0.out (Kd.C_below HR1.out HW0.out) HC1.out HF.out).mono ?_
       rintro e w1 ⟨rfl, hb1⟩
       have HB1 := zA_ (below_step HW0.out hb1)
       have hx0 := blk_below (by exact HX0.out) hb1
       have hx1 := blk_below (by exact HX1.out) hb1
       have HX01 := zA_ hx0
       have HX11 := zA_ hx1
       clear hb1
       have b0 := (blk_cell HX01.out 0).trans (rfl : _ = some (Value.slice A0_0 l0_0.length c0_0))
       have b1 := (blk_cell HX01.out 1).trans (rfl : _ = some (Value.slice A0_1 l0_1.length c0_1))
       clear hx0 hx1
       go_wp2_with (fail)
       go_at_call 49
       refine (impl_Flash_has.calls A0_0 c0_0 l0_0 A0_1 c0_1 l0_1 a1 false _ (Kd.C_below HR0.out HB1.out) HC0.out (Kd.C_below HR1.out HB1.out) HC1.out HH.out).mono ?_
       rintro e wh ⟨rfl, hbh⟩
       have HB1_ := zA_ (below_step HB1.out hbh)
       have hx0 := blk_below HX01.out hbh
       have hx1 := blk_below HX11.out hbh
       clear HB1 HX01 HX11 hbh b0 b1
       have HB1 := HB1_
       have HX01 := zA_ hx0
       have HX11 := zA_ hx1
       clear HB1_
       have oc0 := blk_cell hx1 0
       have of0 := blk_frozen hx1 0
       have oc1 := blk_cell hx1 1
       have of1 := blk_frozen hx1 1
       have oc2 := blk_cell hx1 2
       have of2 := blk_frozen hx1 2
       have oc3 := blk_cell hx1 3
       have of3 := blk_frozen hx1 3
       clear hx0 hx1
       go_wp2
       refine bodyPost_ret (results_cell_row rfl _ _ (w.heap.size + 1) 30 #[.slice none 0 0, .slice none 0 0, .string ⟨#[]⟩, .int .i64 8] (0, 0) _ rfl βr Try.underlying30 rfl βPb) rfl ?_
       exact ⟨_, _, rfl, Kd.R_nil _ _ _ _ _, Kd.R_nil _ _ _ _ _, ((((show Below w.heap.size w _ from by first | exact HB1.out | exact pw_below_drewN HB1.out _).setCell (Nat.le_succ _) _).setCell (Nat.le_succ _) _).setCell (Nat.le_succ _) _).setCell (Nat.le_succ _) _⟩
      | true =>
       simp only [if_true] at h
       obtain ⟨c, hc, h⟩ := Option.bind_eq_some_iff.1 h
       obtain ⟨cS, cD⟩ := c
       by_cases hok : cD.length ≤ 1000000
       · simp only [hok, if_true, Option.some.injEq, Prod.mk.injEq] at h
         obtain ⟨rfl, rfl, rfl, rfl⟩ := h
         have HOK := zA_ hok
         have HCL := zA_ hc
         clear hok hc
         go_enter Try.func6, Try.ntmps6
         go_wp2_with (fail)
         go_at_call 48
         refine (impl_isFlash.calls A0_0 c0_0 l0_0 A0_1 c0_1 l0_1 true _ (Kd.C_below HR0.out HW0.out) HC0.out (Kd.C_below HR1.out HW0.out) HC1.out HF.out).mono ?_
         rintro e w1 ⟨rfl, hb1⟩
         have HB1 := zA_ (below_step HW0.out hb1)
         have hx0 := blk_below (by exact HX0.out) hb1
         have hx1 := blk_below (by exact HX1.out) hb1
         have HX01 := zA_ hx0
         have HX11 := zA_ hx1
         clear hb1
         have b0 := (blk_cell HX01.out 0).trans (rfl : _ = some (Value.slice A0_0 l0_0.length c0_0))
         have b1 := (blk_cell HX01.out 1).trans (rfl : _ = some (Value.slice A0_1 l0_1.length c0_1))
         clear hx0 hx1
         go_wp2_with (fail)
         go_at_call 49
         refine (impl_Flash_has.calls A0_0 c0_0 l0_0 A0_1 c0_1 l0_1 a1 true _ (Kd.C_below HR0.out HB1.out) HC0.out (Kd.C_below HR1.out HB1.out) HC1.out HH.out).mono ?_
         rintro e wh ⟨rfl, hbh⟩
         have HB1_ := zA_ (below_step HB1.out hbh)
         have hx0 := blk_below HX01.out hbh
         have hx1 := blk_below HX11.out hbh
         clear HB1 HX01 HX11 hbh b0 b1
         have HB1 := HB1_
         have HX01 := zA_ hx0
         have HX11 := zA_ hx1
         clear HB1_
         have b0 := (blk_cell HX01.out 0).trans (rfl : _ = some (Value.slice A0_0 l0_0.length c0_0))
         have b1 := (blk_cell HX01.out 1).trans (rfl : _ = some (Value.slice A0_1 l0_1.length c0_1))
         clear hx0 hx1
         go_wp2_with (fail)
         go_at_call 50
         refine (impl_cloneFlash.calls A0_0 c0_0 l0_0 A0_1 c0_1 l0_1 cS cD _ (by repeat (first | exact (Kd.C_below HR0.out HB1.out) | (with_reducible refine Kd.C_drewN ?_ _))) HC0.out (by repeat (first | exact (Kd.C_below HR1.out HB1.out) | (with_reducible refine Kd.C_drewN ?_ _))) HC1.out HCL.out).mono ?_
         rintro e w2 ⟨v0, v1, rfl, hS, hD, hb2⟩
         obtain ⟨As, cs, rfl⟩ := Kd.R_slice hS
         obtain ⟨Ad, cd, rfl⟩ := Kd.R_slice hD
         have HFB := zA_ (show FB (w2.alloc (.cells #[.slice As cS.length cs, .slice Ad cD.length cd] 26)) wh.heap.size w2.heap.size cS cD from ⟨_, _, blk_new _ _, hb2.size, Kd.R_alloc hS _, Kd.R_alloc hD _⟩)
         have HB2 := zA_ (show Below wh.heap.size wh (w2.alloc (.cells #[.slice As cS.length cs, .slice Ad cD.length cd] 26)) from below_alloc hb2 _)
         clear hS hD hb2
         go_wp2_with (fail)
         go_at_call 51
         refine (impl_Flash_write.calls wh wh.heap.size _ cS cD a1 a2 _ (by exact HFB.out) (by exact HB2.out) HB2.out.size HOK.out).mono ?_
         rintro e w3 ⟨rfl, hF3, hb3, _⟩
         obtain ⟨u0, u1, hk3, hg3, hS3, hD3⟩ := hF3
         obtain ⟨Au, cu, rfl⟩ := Kd.R_slice hS3
         obtain ⟨Av, cv, rfl⟩ := Kd.R_slice hD3
         have e0 := (blk_cell hk3 0).trans (rfl : _ = some (Value.slice Au _ cu))
         have e1 := (blk_cell hk3 1).trans (rfl : _ = some (Value.slice Av _ cv))
         have hx3 := (hb3.block (w.heap.size + 1) (blk_lt HX11.out)).trans HX11.out
         have HX3 := zA_ hx3
         have HS3 := zA_ hS3
         have HD3 := zA_ hD3
         have HB3 := zA_ (below_step HB1.out hb3)
         have oc0 := blk_cell hx3 0
         have of0 := blk_frozen hx3 0
         have oc1 := blk_cell hx3 1
         have of1 := blk_frozen hx3 1
         have oc2 := blk_cell hx3 2
         have of2 := blk_frozen hx3 2
         have oc3 := blk_cell hx3 3
         have of3 := blk_frozen hx3 3
         clear hk3 hg3 hS3 hD3 hb3 hx3
         go_wp2
         refine bodyPost_ret (results_cell_row rfl _ _ (w.heap.size + 1) 30 #[.slice Au cS.length cu, .slice Av (impl_Flash_put cS cD a1 a2).length cv, .string ⟨#[]⟩, .int .i64 0] (0, 0) _ rfl (by refine blk_put (cs := #[.slice Au cS.length cu, .slice Av (impl_Flash_put cS cD a1 a2).length cv, .string ⟨#[]⟩, .int .i64 0]) ?_ 3 _ rfl; refine blk_put (cs := #[.slice Au cS.length cu, .slice Av (impl_Flash_put cS cD a1 a2).length cv, .string ⟨#[]⟩, .int .i64 0]) ?_ 2 _ rfl; refine blk_put (cs := #[.slice Au cS.length cu, .slice none 0 0, .string ⟨#[]⟩, .int .i64 0]) ?_ 1 _ rfl; refine blk_put (cs := #[.slice none 0 0, .slice none 0 0, .string ⟨#[]⟩, .int .i64 0]) ?_ 0 _ rfl; (repeat (first | exact HX3.out | refine blk_drewN ?_ _ | refine blk_drew ?_))) Try.underlying30 rfl βPb) rfl ?_
         exact ⟨_, _, rfl, Kd.R_lower (FB.out4 HS3.out HX3.out (by decide) _ _ _ _) HB1.out.size, Kd.R_lower (FB.out4 HD3.out HX3.out (by decide) _ _ _ _) HB1.out.size, ((((show Below w.heap.size w _ from by first | exact HB3.out | exact pw_below_drewN HB3.out _).setCell (Nat.le_succ _) _).setCell (Nat.le_succ _) _).setCell (Nat.le_succ _) _).setCell (Nat.le_succ _) _⟩
       · simp only [if_neg hok] at h; cases h
def spec_l01Src_edge.f (s0_0 : List Int) (s0_1 : Int) (s0_2 : Int) (s0_3 : Int) : Option (Int × Int × Int × Int) := (some (([0, 1, (-1), 2, 1000, 1001, 2147483648, 2147483647, (-2147483648), 4611686018427387904, 9223372036854775807, (-9223372036854775808), 1000000, 1000001] : List Int) : List Int)).bind fun y351 => ((spec_l01Src_n.f s0_0 s0_1 s0_2 s0_3 14).bind fun bt354 => (if 0 ≤ bt354.1 then (if bt354.1 < (y351.length : Int) then (some (rd y351 bt354.1, bt354.2.1, bt354.2.2.1, bt354.2.2.2)) else (none)) else (none)))
theorem spec_l01Src_edge.calls (g : Nat) (s0_0 : List Int) (s0_1 : Int) (s0_2 : Int) (s0_3 : Int) (r1 : Int) (r2 : Int) (r3 : Int) (r4 : Int) (w0 w : World) (hI : IsS101 w0 w g s0_0 s0_1 s0_2 s0_3) (hB : Below w0.heap.size w0 w) (h : spec_l01Src_edge.f s0_0 s0_1 s0_2 s0_3 = some (r1, r2, r3, r4)) :
 Calls Try.prog 55 #[.pointer (some ⟨g, 0, none⟩)] w fun e w' => e = .returned (.int .i64 r1) ∧ IsS101 w0 w' g s0_0 r2 r3 r4 ∧ Below w0.heap.size w0 w' ∧ KeepBut w w' g none := by
 have HI0 := zA_ hI
 have HK := zA_ (KeepBut.refl w g none)
 have HL := zA_ hB.size
 clear hI
 have HW0 := zA_ hB.size
 have HB := zA_ hB
 clear hB
 have H : ((some (([0, 1, (-1), 2, 1000, 1001, 2147483648, 2147483647, (-2147483648), 4611686018427387904, 9223372036854775807, (-9223372036854775808), 1000000, 1000001] : List Int) : List Int)).bind fun y351 => ((spec_l01Src_n.f s0_0 s0_1 s0_2 s0_3 14).bind fun bt354 => (if 0 ≤ bt354.1 then (if bt354.1 < (y351.length : Int) then (some (rd y351 bt354.1, bt354.2.1, bt354.2.2.1, bt354.2.2.2)) else (none)) else (none)))) = some (r1, r2, r3, r4) := h
 clear h
 obtain ⟨y351, hy351⟩ : ∃ y_ : List Int, y_ = (([0, 1, (-1), 2, 1000, 1001, 2147483648, 2147483647, (-2147483648), 4611686018427387904, 9223372036854775807, (-9223372036854775808), 1000000, 1000001] : List Int)) := ⟨_, rfl⟩
 replace H : ((spec_l01Src_n.f s0_0 s0_1 s0_2 s0_3 14).bind fun bt354 => (if 0 ≤ bt354.1 then (if bt354.1 < (y351.length : Int) then (some (rd y351 bt354.1, bt354.2.1, bt354.2.2.1, bt354.2.2.2)) else (none)) else (none))) = some (r1, r2, r3, r4) := by first | (rw [hy351]; with_reducible exact H) | (have H2_ := (Option.bind_some _ _).symm.trans H; rw [hy351]; with_reducible exact H2_) | (have H2_ := (Option.bind_some _ _).symm.trans H; with_reducible exact H2_) | with_reducible exact H | (rw [hy351]; exact H) | exact H
 have Ny351 := zA_ hy351
 clear hy351
 replace H := Option.bind_eq_some_iff.mp H
 obtain ⟨⟨t354, t355, t356, t357⟩, A20, H⟩ := H
 (try dsimp -simprocs only at H)
 have A2 := zA_ A20
 clear A20
 by_cases c3 : 0 ≤ t354
 · rw [if_pos c3] at H
   have c3b0 : decide (0 ≤ t354) = true := decide_eq_true c3
   clear c3
   by_cases c4 : t354 < (y351.length : Int)
   · rw [if_pos c4] at H
     have c4b0 : decide (t354 < (y351.length : Int)) = true := decide_eq_true c4
     clear c4
     simp only [Option.some.injEq, Prod.mk.injEq] at H
     obtain ⟨rfl, rfl, rfl, rfl⟩ := H
     go_enter Try.func55, Try.ntmps55
     go_wp2_with (first | ((with_reducible refine gate_dst (N := 3) rfl ?_); refine Kd.R_lit (Kd.int .i64) _ 2 ?hg (N := 3) ?hd (xs := ([0, 1, (-1), 2, 1000, 1001, 2147483648, 2147483647, (-2147483648), 4611686018427387904, 9223372036854775807, (-9223372036854775808), 1000000, 1000001] : List Int)) (inner := [.int .i64 0, .int .i64 1, .int .i64 (-1), .int .i64 2, .int .i64 1000, .int .i64 1001, .int .i64 2147483648, .int .i64 2147483647, .int .i64 (-2147483648), .int .i64 4611686018427387904, .int .i64 9223372036854775807, .int .i64 (-9223372036854775808), .int .i64 1000000, .int .i64 1000001]) (ok := fun _ => True) (okp := fun _ => True) ?hr ?hp (fun _ hk => hk) trivial (Below.refl _ _) (Nat.le_refl _) (by simp) ?_; (case hd => exact (by rfl)); (case hg => exact (by rfl)); (case hr => exact βMb); (case hp => exact (Reps.one (show Kd.M (Kd.int .i64) _ _ _ 0 [.int .i64 0] from rfl) (Reps.one (show Kd.M (Kd.int .i64) _ _ _ 1 [.int .i64 1] from rfl) (Reps.one (show Kd.M (Kd.int .i64) _ _ _ (-1) [.int .i64 (-1)] from rfl) (Reps.one (show Kd.M (Kd.int .i64) _ _ _ 2 [.int .i64 2] from rfl) (Reps.one (show Kd.M (Kd.int .i64) _ _ _ 1000 [.int .i64 1000] from rfl) (Reps.one (show Kd.M (Kd.int .i64) _ _ _ 1001 [.int .i64 1001] from rfl) (Reps.one (show Kd.M (Kd.int .i64) _ _ _ 2147483648 [.int .i64 2147483648] from rfl) (Reps.one (show Kd.M (Kd.int .i64) _ _ _ 2147483647 [.int .i64 2147483647] from rfl) (Reps.one (show Kd.M (Kd.int .i64) _ _ _ (-2147483648) [.int .i64 (-2147483648)] from rfl) (Reps.one (show Kd.M (Kd.int .i64) _ _ _ 4611686018427387904 [.int .i64 4611686018427387904] from rfl) (Reps.one (show Kd.M (Kd.int .i64) _ _ _ 9223372036854775807 [.int .i64 9223372036854775807] from rfl) (Reps.one (show Kd.M (Kd.int .i64) _ _ _ (-9223372036854775808) [.int .i64 (-9223372036854775808)] from rfl) (Reps.one (show Kd.M (Kd.int .i64) _ _ _ 1000000 [.int .i64 1000000] from rfl) (Reps.one (show Kd.M (Kd.int .i64) _ _ _ 1000001 [.int .i64 1000001] from rfl) (Reps.none _ _)))))))))))))))); intro v352 w5 ho6 hb hg_ hnew_; clear hg_ hnew_; (first | rw [← Ny351.out] at ho6 | (simp only [Int.reduceToNat] at ho6; rw [← Ny351.out] at ho6)); have HO353 := zA_ (Kd.R_lower ho6 (keep_size (w := w) (g := g) (row := none) βAb)); replace HK := zA_ (KeepBut.trans βAb (KeepBut.of_below hb g none) (.inl rfl)); replace HB := zA_ (below_step βnb hb); replace HI0 := zA_ (IsS101.below βdb hb); clear hb ho6) | ((with_reducible refine gate_callee (f := 45) rfl ?_); refine goesL_ (some 5) rfl rfl Try.func45 βPb rfl #[.pointer (some ⟨g, 0, none⟩), .int .i64 14] rfl zs_ ?_; (with_reducible refine (spec_l01Src_n.calls g s0_0 s0_1 s0_2 s0_3 14 t354 t355 t356 t357 w0 _ ?side1 ?side2 A2.out).mono ?_); (case side1 => exact βdb); (case side2 => exact βnb); rintro e w7 ⟨rfl, hi, hb, hk⟩; refine ⟨_, rfl, ?_⟩; replace HO353 := zA_ (Kd.R_mono (Kd.R_keep (IsS101.apart (show IsS101 w0 _ g s0_0 s0_1 s0_2 s0_3 from by repeat (first | (with_reducible first | exact HI0.out | apply IsS101.alloc | apply IsS101.drewN | apply IsS101.drew | apply IsS101.set_1 | apply IsS101.set_2 | apply IsS101.set_3) | exact HI0.out)) (zr_ HO353.out) (by decide)) hk (fun _ h => h.2)) (fun _ h => h.1)); replace HK := zA_ (KeepBut.trans βAb hk (.inl rfl)); replace HB := zA_ (hb); replace HI0 := zA_ (hi); (try clear hb); (try clear hb2); (try clear hk); (try clear hi); obtain ⟨Ao8, co8, eo8⟩ := Kd.R_slice HO353.out; subst eo8; have p358 : 0 ≤ (t354 : Int) := of_decide_eq_true βKb; have q358 : t354 < (y351.length : Int) := of_decide_eq_true βKb; obtain ⟨ad358, e358, hx358_0⟩ := Kd.at_int (Kd.R_reads' HO353.out).2.2 t354 p358 q358; cases e358; replace p358 := eq_true p358; replace q358 := eq_true q358))
     go_ret
     exact ⟨βFb, βdb, βnb, βAb⟩
   · rw [if_neg c4] at H
     exact absurd H (by simp)
 · rw [if_neg c3] at H
   exact absurd H (by simp)
def spec_l01Src_l03Fates.l0 : Nat → List Int → Int → List Int → Int → Int → Int → Option (List Int × Int × Int × Int)
 | 0, _, _, _, _, _, _ => none
 | k + 1, x3, x4, x1000, x1001, x1002, x1003 => if x4 > 0 then ((spec_l01Src_n.f x1000 x1001 x1002 x1003 12).bind fun bt366 => ((some (([0, 1, wrap64 (2 + bt366.1)] : List Int) : List Int)).bind fun y370 => ((spec_l01Src_n.f x1000 bt366.2.1 bt366.2.2.1 bt366.2.2.2 3).bind fun bt373 => (if 0 ≤ bt373.1 then (if bt373.1 < (y370.length : Int) then (if x3.length < 17592186044416 then (spec_l01Src_l03Fates.l0 k (x3 ++ [rd y370 bt373.1]) (wrap64 (x4 - 1)) x1000 bt373.2.1 bt373.2.2.1 bt373.2.2.2) else (none)) else (none)) else (none))))) else ((spec_l01Src_one.f x1000 x1001 x1002 x1003 25).bind fun bt381 => (if bt381.1 = true then ((spec_l01Src_edge.f x1000 bt381.2.1 bt381.2.2.1 bt381.2.2.2).bind fun bt385 => (if x3.length < 17592186044416 then (some ((x3 ++ [bt385.1]), bt385.2.1, bt385.2.2.1, bt385.2.2.2)) else (none))) else (some (x3, bt381.2.1, bt381.2.2.1, bt381.2.2.2))))
def spec_l01Src_l03Fates.f (k : Nat) (s0_0 : List Int) (s0_1 : Int) (s0_2 : Int) (s0_3 : Int) : Option (List Int × Int × Int × Int) := (spec_l01Src_n.f s0_0 s0_1 s0_2 s0_3 7).bind fun bt362 => (spec_l01Src_l03Fates.l0 k (([] : List Int)) bt362.1 s0_0 bt362.2.1 bt362.2.2.1 bt362.2.2.2)
theorem spec_l01Src_l03Fates.calls (k : Nat) (g : Nat) (s0_0 : List Int) (s0_1 : Int) (s0_2 : Int) (s0_3 : Int) (r1 : List Int) (r2 : Int) (r3 : Int) (r4 : Int) (w0 w : World) (hI : IsS101 w0 w g s0_0 s0_1 s0_2 s0_3) (hB : Below w0.heap.size w0 w) (h : spec_l01Src_l03Fates.f k s0_0 s0_1 s0_2 s0_3 = some (r1, r2, r3, r4)) :
 Calls Try.prog 52 #[.pointer (some ⟨g, 0, none⟩)] w fun e w' => ∃ v0_ : Value, e = .returned (v0_) ∧ Kd.R (Kd.int .i64) 2 w' w.heap.size (fun _ => True) v0_ r1 ∧ IsS101 w0 w' g s0_0 r2 r3 r4 ∧ Below w0.heap.size w0 w' ∧ KeepBut w w' g none := by
 have HI0 := zA_ hI
 have HK := zA_ (KeepBut.refl w g none)
 have HL := zA_ hB.size
 clear hI
 have HW0 := zA_ hB.size
 have HB := zA_ hB
 clear hB
 have H : ((spec_l01Src_n.f s0_0 s0_1 s0_2 s0_3 7).bind fun bt362 => (spec_l01Src_l03Fates.l0 k (([] : List Int)) bt362.1 s0_0 bt362.2.1 bt362.2.2.1 bt362.2.2.2)) = some (r1, r2, r3, r4) := h
 clear h
 obtain ⟨y359, hy359⟩ : ∃ y_ : List Int, y_ = (([] : List Int)) := ⟨_, rfl⟩
 replace H : ((spec_l01Src_n.f s0_0 s0_1 s0_2 s0_3 7).bind fun bt362 => (spec_l01Src_l03Fates.l0 k y359 bt362.1 s0_0 bt362.2.1 bt362.2.2.1 bt362.2.2.2)) = some (r1, r2, r3, r4) := by first | (rw [hy359]; with_reducible exact H) | (have H2_ := (Option.bind_some _ _).symm.trans H; rw [hy359]; with_reducible exact H2_) | (have H2_ := (Option.bind_some _ _).symm.trans H; with_reducible exact H2_) | with_reducible exact H | (rw [hy359]; exact H) | exact H
 have Ny359 := zA_ hy359
 clear hy359
 replace H := Option.bind_eq_some_iff.mp H
 obtain ⟨⟨t362, t363, t364, t365⟩, A20, H⟩ := H
 (try dsimp -simprocs only at H)
 have A2 := zA_ A20
 clear A20
 have H' := zA_ H
 clear H
 go_enter Try.func52, Try.ntmps52
 go_wp2_with (first | ((with_reducible refine gate_dst (N := 5) rfl ?_); refine Kd.R_lit (Kd.int .i64) _ 2 ?hg (N := 5) ?hd (xs := ([] : List Int)) (inner := []) (ok := fun _ => True) (okp := fun _ => True) ?hr ?hp (fun _ hk => hk) trivial (Below.refl _ _) (Nat.le_refl _) (by simp) ?_; (case hd => exact (by rfl)); (case hg => exact (by rfl)); (case hr => exact βMb); (case hp => exact (Reps.none _ _)); intro v360 w3 ho4 hb hg_ hnew_; clear hg_ hnew_; (first | rw [← Ny359.out] at ho4 | (simp only [Int.reduceToNat] at ho4; rw [← Ny359.out] at ho4)); have HO361 := zA_ (Kd.R_lower ho4 (keep_size (w := w) (g := g) (row := none) βAb)); replace HK := zA_ (KeepBut.trans βAb (KeepBut.of_below hb g none) (.inl rfl)); replace HB := zA_ (below_step βnb hb); replace HI0 := zA_ (IsS101.below βdb hb); clear hb ho4) | ((with_reducible refine gate_callee (f := 45) rfl ?_); refine goesL_ (some 7) rfl rfl Try.func45 βPb rfl #[.pointer (some ⟨g, 0, none⟩), .int .i64 7] rfl zs_ ?_; (with_reducible refine (spec_l01Src_n.calls g s0_0 s0_1 s0_2 s0_3 7 t362 t363 t364 t365 w0 _ ?side1 ?side2 A2.out).mono ?_); (case side1 => exact βdb); (case side2 => exact βnb); rintro e w5 ⟨rfl, hi, hb, hk⟩; refine ⟨_, rfl, ?_⟩; replace HO361 := zA_ (Kd.R_mono (Kd.R_keep (IsS101.apart (show IsS101 w0 _ g s0_0 s0_1 s0_2 s0_3 from by repeat (first | (with_reducible first | exact HI0.out | apply IsS101.alloc | apply IsS101.drewN | apply IsS101.drew | apply IsS101.set_1 | apply IsS101.set_2 | apply IsS101.set_3) | exact HI0.out)) (zr_ HO361.out) (by decide)) hk (fun _ h => h.2)) (fun _ h => h.1)); replace HK := zA_ (KeepBut.trans βAb hk (.inl rfl)); replace HB := zA_ (hb); replace HI0 := zA_ (hi); (try clear hb); (try clear hb2); (try clear hk); (try clear hi)))
 go_loopg [3, 4] k (fun kq v3 v4 w' => ∃ (x3_1 : List Int) (x4_1 : Int) (x1001_1 : Int) (x1002_1 : Int) (x1003_1 : Int), v4 = .int .i64 x4_1 ∧ Aside0 (spec_l01Src_l03Fates.l0 kq x3_1 x4_1 s0_0 x1001_1 x1002_1 x1003_1 = some (r1, r2, r3, r4)) ∧ Aside0 (kq ≤ k) ∧ Aside0 (Kd.R (Kd.int .i64) 2 w' w.heap.size (fun _ => True) v3 x3_1) ∧ Aside0 (IsS101 w0 w' g s0_0 x1001_1 x1002_1 x1003_1) ∧ Aside0 (KeepBut w w' g none) ∧ Aside0 (Below w0.heap.size w0 w'))
 case atStart => exact ⟨(y359), (t362), (t363), (t364), (t365), βLb, H', ⟨Nat.le_refl _⟩, ⟨zr_ HO361.out⟩, ⟨βdb⟩, ⟨βAb⟩, ⟨βnb⟩⟩
 case round =>
  clear H'
  try clear p2
  try clear c4
  try clear c5
  obtain ⟨x3_1, x4_1, x1001_1, x1002_1, x1003_1, rfl, HA, HK1, HO_3, HI0, HK, HB⟩ := hrel
  cases gk with
  | zero => exact absurd HA.out (by simp [spec_l01Src_l03Fates.l0])
  | succ k1 =>
   have H := HA.out
   clear HA
   simp only [spec_l01Src_l03Fates.l0] at H
   by_cases c6 : x4_1 > 0
   · rw [if_pos c6] at H
     have c6b0 : decide (0 < x4_1) = true := decide_eq_true c6
     clear c6
     replace H := Option.bind_eq_some_iff.mp H
     obtain ⟨⟨t366, t367, t368, t369⟩, A70, H⟩ := H
     (try dsimp -simprocs only at H)
     have A7 := zA_ A70
     clear A70
     obtain ⟨y370, hy370⟩ : ∃ y_ : List Int, y_ = (([0, 1, wrap64 (2 + t366)] : List Int)) := ⟨_, rfl⟩
     replace H : ((spec_l01Src_n.f s0_0 t367 t368 t369 3).bind fun bt373 => (if 0 ≤ bt373.1 then (if bt373.1 < (y370.length : Int) then (if x3_1.length < 17592186044416 then (spec_l01Src_l03Fates.l0 k1 (x3_1 ++ [rd y370 bt373.1]) (wrap64 (x4_1 - 1)) s0_0 bt373.2.1 bt373.2.2.1 bt373.2.2.2) else (none)) else (none)) else (none))) = some (r1, r2, r3, r4) := by first | (rw [hy370]; with_reducible exact H) | (have H2_ := (Option.bind_some _ _).symm.trans H; rw [hy370]; with_reducible exact H2_) | (have H2_ := (Option.bind_some _ _).symm.trans H; with_reducible exact H2_) | with_reducible exact H | (rw [hy370]; exact H) | exact H
     have Ny370 := zA_ hy370
     clear hy370
     replace H := Option.bind_eq_some_iff.mp H
     obtain ⟨⟨t373, t374, t375, t376⟩, A80, H⟩ := H
     (try dsimp -simprocs only at H)
     have A8 := zA_ A80
     clear A80
     by_cases c9 : 0 ≤ t373
     · rw [if_pos c9] at H
       have c9b0 : decide (0 ≤ t373) = true := decide_eq_true c9
       clear c9
       by_cases c10 : t373 < (y370.length : Int)
       · rw [if_pos c10] at H
         have c10b0 : decide (t373 < (y370.length : Int)) = true := decide_eq_true c10
         clear c10
         by_cases c11 : x3_1.length < 17592186044416
         · rw [if_pos c11] at H
           have LMc11 := zA_ c11
           clear c11
           obtain ⟨y378, hy378⟩ : ∃ y_ : List Int, y_ = (x3_1 ++ [rd y370 t373]) := ⟨_, rfl⟩
           replace H : (spec_l01Src_l03Fates.l0 k1 y378 (wrap64 (x4_1 - 1)) s0_0 t374 t375 t376) = some (r1, r2, r3, r4) := by first | (rw [hy378]; with_reducible exact H) | (have H2_ := (Option.bind_some _ _).symm.trans H; rw [hy378]; with_reducible exact H2_) | (have H2_ := (Option.bind_some _ _).symm.trans H; with_reducible exact H2_) | with_reducible exact H | (rw [hy378]; exact H) | exact H
           have Ny378 := zA_ hy378
           clear hy378
           have H' := zA_ H
           clear H
           go_wp2_with (first | ((with_reducible refine gate_callee (f := 45) rfl ?_); refine goesL_ (some 14) rfl rfl Try.func45 βPb rfl #[.pointer (some ⟨g, 0, none⟩), .int .i64 12] rfl zs_ ?_; (with_reducible refine (spec_l01Src_n.calls g s0_0 x1001_1 x1002_1 x1003_1 12 t366 t367 t368 t369 w0 _ ?side1 ?side2 A7.out).mono ?_); (case side1 => exact βdb); (case side2 => exact βnb); rintro e w12 ⟨rfl, hi, hb, hk⟩; refine ⟨_, rfl, ?_⟩; replace HO_3 := zA_ (Kd.R_mono (Kd.R_keep (IsS101.apart (show IsS101 w0 _ g s0_0 x1001_1 x1002_1 x1003_1 from by repeat (first | (with_reducible first | exact HI0.out | apply IsS101.alloc | apply IsS101.drewN | apply IsS101.drew | apply IsS101.set_1 | apply IsS101.set_2 | apply IsS101.set_3) | exact HI0.out)) (zr_ HO_3.out) (by decide)) hk (fun _ h => h.2)) (fun _ h => h.1)); replace HK := zA_ (KeepBut.trans βAb hk (.inl rfl)); replace HB := zA_ (hb); replace HI0 := zA_ (hi); (try clear hb); (try clear hb2); (try clear hk); (try clear hi)) | ((with_reducible refine gate_dst (N := 16) rfl ?_); refine Kd.R_lit (Kd.int .i64) _ 2 ?hg (N := 16) ?hd (xs := ([0, 1, wrap64 (2 + t366)] : List Int)) (inner := [.int .i64 0, .int .i64 1, .int .i64 (wrap64 (2 + t366))]) (ok := fun _ => True) (okp := fun _ => True) ?hr ?hp (fun _ hk => hk) trivial (Below.refl _ _) (Nat.le_refl _) (by simp) ?_; (case hd => exact (by rfl)); (case hg => exact (by rfl)); (case hr => exact βMb); (case hp => exact (Reps.one (show Kd.M (Kd.int .i64) _ _ _ 0 [.int .i64 0] from rfl) (Reps.one (show Kd.M (Kd.int .i64) _ _ _ 1 [.int .i64 1] from rfl) (Reps.one (show Kd.M (Kd.int .i64) _ _ _ (wrap64 (2 + t366)) [.int .i64 (wrap64 (2 + t366))] from rfl) (Reps.none _ _))))); intro v371 w13 ho14 hb hg_ hnew_; clear hg_ hnew_; (first | rw [← Ny370.out] at ho14 | (simp only [Int.reduceToNat] at ho14; rw [← Ny370.out] at ho14)); have HO372 := zA_ (Kd.R_lower (Kd.R_new' ho14 (Kd.R_lt (zr_ HO_3.out))) (keep_size (w := w) (g := g) (row := none) βAb)); replace HO_3 := zE_ HO_3.out ho14 hb; replace HK := zA_ (KeepBut.trans βAb (KeepBut.of_below hb g none) (.inl rfl)); replace HB := zA_ (below_step βnb hb); replace HI0 := zA_ (IsS101.below βdb hb); clear hb ho14) | ((with_reducible refine gate_callee (f := 45) rfl ?_); refine goesL_ (some 18) rfl rfl Try.func45 βPb rfl #[.pointer (some ⟨g, 0, none⟩), .int .i64 3] rfl zs_ ?_; (with_reducible refine (spec_l01Src_n.calls g s0_0 t367 t368 t369 3 t373 t374 t375 t376 w0 _ ?side1 ?side2 A8.out).mono ?_); (case side1 => exact βdb); (case side2 => exact βnb); rintro e w15 ⟨rfl, hi, hb, hk⟩; refine ⟨_, rfl, ?_⟩; replace HO_3 := zA_ (Kd.R_mono (Kd.R_keep (IsS101.apart (show IsS101 w0 _ g s0_0 t367 t368 t369 from by repeat (first | (with_reducible first | exact HI0.out | apply IsS101.alloc | apply IsS101.drewN | apply IsS101.drew | apply IsS101.set_1 | apply IsS101.set_2 | apply IsS101.set_3) | exact HI0.out)) (zr_ HO_3.out) (by decide)) hk (fun _ h => h.2)) (fun _ h => h.1)); replace HO372 := zA_ (Kd.R_mono (Kd.R_keep (IsS101.apart (show IsS101 w0 _ g s0_0 t367 t368 t369 from by repeat (first | (with_reducible first | exact HI0.out | apply IsS101.alloc | apply IsS101.drewN | apply IsS101.drew | apply IsS101.set_1 | apply IsS101.set_2 | apply IsS101.set_3) | exact HI0.out)) (zr_ HO372.out) (by decide)) hk (fun _ h => h.2)) (fun _ h => h.1)); replace HK := zA_ (KeepBut.trans βAb hk (.inl rfl)); replace HB := zA_ (hb); replace HI0 := zA_ (hi); (try clear hb); (try clear hb2); (try clear hk); (try clear hi); obtain ⟨Ao16, co16, eo16⟩ := Kd.R_slice HO372.out; subst eo16; have p377 : 0 ≤ (t373 : Int) := of_decide_eq_true βKb; have q377 : t373 < (y370.length : Int) := of_decide_eq_true βKb; obtain ⟨ad377, e377, hx377_0⟩ := Kd.at_int (Kd.R_reads' HO372.out).2.2 t373 p377 q377; cases e377; replace p377 := eq_true p377; replace q377 := eq_true q377) | ((with_reducible refine gate_builtin (b := .append) (xs := #[.tmp 12, .tmp 21]) rfl ?_); at_builtin; refine Kd.R_append (Kd.int .i64) w.heap.size rfl (.tmp 12) (.tmp 21) 32 2 (.int .i64 0) 8 rfl Try.underlying32 info2 rfl (by decide) (by omega) u3 x3_1 (rd y370 t373) [.int .i64 (rd y370 t373)] (fun k_ => some k_ ≠ (.slice (some ad377) y370.length co16 : Value).ownBlock) (fun _ => False) rfl rfl ?aP (fun _ hk => hk.elim) ?aF ?aO (Below.refl _ _) ?aS ?aL ?_; (case aP => exact rfl); (case aF => exact (fun k_ hk => Kd.fresh' (Kd.R_lt (zr_ HO372.out)) k_ hk)); (case aO => exact (by (with_reducible repeat (first | apply Kd.R_alloc | apply Kd.R_drewN | apply Kd.R_drew)); exact Kd.R_mono HO_3.out (fun _ hk => hk.2))); (case aS => exact (keep_size (w := w) (g := g) (row := none) βAb)); (case aL => exact (by have := LMc11.out; omega)); intro v379 w17 ho hb hg hat; rw [← Ny378.out] at ho; replace HO372 := zA_ (Kd.R_after (ok := (fun _ => True)) (zr_ HO372.out) hg hat); replace HB := zA_ (below_weaken βnb HL.out hb); replace HI0 := zA_ (IsS101.grown βdb hg (IsS101.own_ne HI0.out HO_3.out (by decide))); replace HK := zA_ (KeepBut.trans βAb (KeepBut.of_grown hg g) (Kd.R_base2 HO_3.out)); have HO380 := zA_ (ho); clear HO_3; clear ho hb hg hat))
           go_roundg k1
           case measure => have := HK1.out; omega
           case rel => exact ⟨(y378), (wrap64 (x4_1 - 1)), (t374), (t375), (t376), βLb, H', ⟨βOb⟩, ⟨(by (with_reducible repeat (first | apply Kd.R_alloc | apply Kd.R_drewN | apply Kd.R_drew)); exact Kd.R_mono HO380.out (fun _ hk => trivial))⟩, ⟨βdb⟩, ⟨βAb⟩, ⟨βnb⟩⟩
         · rw [if_neg c11] at H
           exact absurd H (by simp)
       · rw [if_neg c10] at H
         exact absurd H (by simp)
     · rw [if_neg c9] at H
       exact absurd H (by simp)
   · rw [if_neg c6] at H
     have c6b0 : decide (0 < x4_1) = false := decide_eq_false c6
     clear c6
     replace H := Option.bind_eq_some_iff.mp H
     obtain ⟨⟨t381, t382, t383, t384⟩, A180, H⟩ := H
     (try dsimp -simprocs only at H)
     have A18 := zA_ A180
     clear A180
     by_cases c19 : t381 = true
     · subst c19
       have H1 : ((spec_l01Src_edge.f s0_0 t382 t383 t384).bind fun bt385 => (if x3_1.length < 17592186044416 then (some ((x3_1 ++ [bt385.1]), bt385.2.1, bt385.2.2.1, bt385.2.2.2)) else (none))) = some (r1, r2, r3, r4) := by rw [if_pos rfl] at H; exact H
       clear H
       have H := H1
       clear H1
       replace H := Option.bind_eq_some_iff.mp H
       obtain ⟨⟨t385, t386, t387, t388⟩, A200, H⟩ := H
       (try dsimp -simprocs only at H)
       have A20 := zA_ A200
       clear A200
       by_cases c21 : x3_1.length < 17592186044416
       · rw [if_pos c21] at H
         have LMc21 := zA_ c21
         clear c21
         obtain ⟨y389, hy389⟩ : ∃ y_ : List Int, y_ = (x3_1 ++ [t385]) := ⟨_, rfl⟩
         replace H : (some (y389, t386, t387, t388)) = some (r1, r2, r3, r4) := by first | (rw [hy389]; with_reducible exact H) | (have H2_ := (Option.bind_some _ _).symm.trans H; rw [hy389]; with_reducible exact H2_) | (have H2_ := (Option.bind_some _ _).symm.trans H; with_reducible exact H2_) | with_reducible exact H | (rw [hy389]; exact H) | exact H
         have Ny389 := zA_ hy389
         clear hy389
         simp only [Option.some.injEq, Prod.mk.injEq] at H
         obtain ⟨rfl, rfl, rfl, rfl⟩ := H
         go_wp2_with (first | ((with_reducible refine gate_callee (f := 46) rfl ?_); refine goesL_ (some 24) rfl rfl Try.func46 βPb rfl #[.pointer (some ⟨g, 0, none⟩), .int .i64 25] rfl zs_ ?_; (with_reducible refine (spec_l01Src_one.calls g s0_0 x1001_1 x1002_1 x1003_1 25 true t382 t383 t384 w0 _ ?side1 ?side2 A18.out).mono ?_); (case side1 => exact βdb); (case side2 => exact βnb); rintro e w22 ⟨rfl, hi, hb, hk⟩; refine ⟨_, rfl, ?_⟩; replace HO_3 := zA_ (Kd.R_mono (Kd.R_keep (IsS101.apart (show IsS101 w0 _ g s0_0 x1001_1 x1002_1 x1003_1 from by repeat (first | (with_reducible first | exact HI0.out | apply IsS101.alloc | apply IsS101.drewN | apply IsS101.drew | apply IsS101.set_1 | apply IsS101.set_2 | apply IsS101.set_3) | exact HI0.out)) (zr_ HO_3.out) (by decide)) hk (fun _ h => h.2)) (fun _ h => h.1)); replace HK := zA_ (KeepBut.trans βAb hk (.inl rfl)); replace HB := zA_ (hb); replace HI0 := zA_ (hi); (try clear hb); (try clear hb2); (try clear hk); (try clear hi)) | ((with_reducible refine gate_callee (f := 55) rfl ?_); refine goesL_ (some 27) rfl rfl Try.func55 βPb rfl #[.pointer (some ⟨g, 0, none⟩)] rfl zs_ ?_; (with_reducible refine (spec_l01Src_edge.calls g s0_0 t382 t383 t384 t385 t386 t387 t388 w0 _ ?side1 ?side2 A20.out).mono ?_); (case side1 => exact βdb); (case side2 => exact βnb); rintro e w23 ⟨rfl, hi, hb, hk⟩; refine ⟨_, rfl, ?_⟩; replace HO_3 := zA_ (Kd.R_mono (Kd.R_keep (IsS101.apart (show IsS101 w0 _ g s0_0 t382 t383 t384 from by repeat (first | (with_reducible first | exact HI0.out | apply IsS101.alloc | apply IsS101.drewN | apply IsS101.drew | apply IsS101.set_1 | apply IsS101.set_2 | apply IsS101.set_3) | exact HI0.out)) (zr_ HO_3.out) (by decide)) hk (fun _ h => h.2)) (fun _ h => h.1)); replace HK := zA_ (KeepBut.trans βAb hk (.inl rfl)); replace HB := zA_ (hb); replace HI0 := zA_ (hi); (try clear hb); (try clear hb2); (try clear hk); (try clear hi)) | ((with_reducible refine gate_builtin (b := .append) (xs := #[.tmp 25, .tmp 28]) rfl ?_); at_builtin; refine Kd.R_append (Kd.int .i64) w.heap.size rfl (.tmp 25) (.tmp 28) 32 2 (.int .i64 0) 8 rfl Try.underlying32 info2 rfl (by decide) (by omega) u3 x3_1 t385 [.int .i64 t385] (fun _ => True) (fun _ => False) rfl rfl ?aP (fun _ hk => hk.elim) ?aF ?aO (Below.refl _ _) ?aS ?aL ?_; (case aP => exact rfl); (case aF => exact (fun _ _ => trivial)); (case aO => exact (zr_ HO_3.out)); (case aS => exact (keep_size (w := w) (g := g) (row := none) βAb)); (case aL => exact (by have := LMc21.out; omega)); intro v390 w24 ho hb hg hat; rw [← Ny389.out] at ho; replace HB := zA_ (below_weaken βnb HL.out hb); replace HI0 := zA_ (IsS101.grown βdb hg (IsS101.own_ne HI0.out HO_3.out (by decide))); replace HK := zA_ (KeepBut.trans βAb (KeepBut.of_grown hg g) (Kd.R_base2 HO_3.out)); have HO391 := zA_ (ho); clear HO_3; clear ho hb hg hat))
         go_ret
         exact ⟨_, βFb, (by (with_reducible repeat (first | apply Kd.R_alloc | apply Kd.R_drewN | apply Kd.R_drew)); exact HO391.out), βdb, βnb, βAb⟩
       · rw [if_neg c21] at H
         exact absurd H (by simp)
     · replace c19 := Bool.eq_false_iff.mpr c19
       subst c19
       have H1 : (some (x3_1, t382, t383, t384)) = some (r1, r2, r3, r4) := by rw [if_neg (show ¬ (false = true) by decide)] at H; exact H
       clear H
       have H := H1
       clear H1
       simp only [Option.some.injEq, Prod.mk.injEq] at H
       obtain ⟨rfl, rfl, rfl, rfl⟩ := H
       go_wp2_with (first | ((with_reducible refine gate_callee (f := 46) rfl ?_); refine goesL_ (some 24) rfl rfl Try.func46 βPb rfl #[.pointer (some ⟨g, 0, none⟩), .int .i64 25] rfl zs_ ?_; (with_reducible refine (spec_l01Src_one.calls g s0_0 x1001_1 x1002_1 x1003_1 25 false t382 t383 t384 w0 _ ?side1 ?side2 A18.out).mono ?_); (case side1 => exact βdb); (case side2 => exact βnb); rintro e w25 ⟨rfl, hi, hb, hk⟩; refine ⟨_, rfl, ?_⟩; replace HO_3 := zA_ (Kd.R_mono (Kd.R_keep (IsS101.apart (show IsS101 w0 _ g s0_0 x1001_1 x1002_1 x1003_1 from by repeat (first | (with_reducible first | exact HI0.out | apply IsS101.alloc | apply IsS101.drewN | apply IsS101.drew | apply IsS101.set_1 | apply IsS101.set_2 | apply IsS101.set_3) | exact HI0.out)) (zr_ HO_3.out) (by decide)) hk (fun _ h => h.2)) (fun _ h => h.1)); replace HK := zA_ (KeepBut.trans βAb hk (.inl rfl)); replace HB := zA_ (hb); replace HI0 := zA_ (hi); (try clear hb); (try clear hb2); (try clear hk); (try clear hi)))
       go_ret
       exact ⟨_, βFb, (by (with_reducible repeat (first | apply Kd.R_alloc | apply Kd.R_drewN | apply Kd.R_drew)); exact HO_3.out), βdb, βnb, βAb⟩
def spec_DrawFlashCrash.f (k : Nat) (l0 : List Int) : Option (List ByteArray × (List (S83)) × List Int) := (spec_l01Source.f k l0).bind fun bt393 => ((spec_l01Src_l03Flash.f k bt393.1 bt393.2.1 bt393.2.2.1 bt393.2.2.2).bind fun bt398 => ((spec_l01Src_l03Fates.f k bt393.1 bt398.2.2.1 bt398.2.2.2.1 bt398.2.2.2.2).bind fun bt408 => (some (bt398.1, bt398.2.1, bt408.1))))
theorem spec_DrawFlashCrash.calls (k : Nat) (A0 : Option Addr) (c0 : Nat) (l0 : List Int) (r1 : List ByteArray) (r2 : List (S83)) (r3 : List Int) (w : World) (hr0 : Kd.C (Kd.int .u8) w A0 l0.length l0) (hc0 : l0.length ≤ c0) (h : spec_DrawFlashCrash.f k l0 = some (r1, r2, r3)) :
 Calls Try.prog 7 #[.slice A0 l0.length c0] w fun e w' => ∃ v0_ v1_ v2_ : Value, e = .returned (.tuple #[.agg #[v0_, v1_], v2_]) ∧ Kd.R Kd.string 9 w' w.heap.size (fun _ => True) v0_ r1 ∧ Kd.R k83 83 w' w.heap.size (fun _ => True) v1_ r2 ∧ Kd.R (Kd.int .i64) 2 w' w.heap.size (fun _ => True) v2_ r3 ∧ Below w.heap.size w w' := by
 have hu26 := Try.underlying26
 have HR0 := zA_ hr0
 have HC0 := zA_ hc0
 clear hr0 hc0
 have HB := zA_ (Below.refl w.heap.size w)
 have H : ((spec_l01Source.f k l0).bind fun bt393 => ((spec_l01Src_l03Flash.f k bt393.1 bt393.2.1 bt393.2.2.1 bt393.2.2.2).bind fun bt398 => ((spec_l01Src_l03Fates.f k bt393.1 bt398.2.2.1 bt398.2.2.2.1 bt398.2.2.2.2).bind fun bt408 => (some (bt398.1, bt398.2.1, bt408.1))))) = some (r1, r2, r3) := h
 clear h
 replace H := Option.bind_eq_some_iff.mp H
 obtain ⟨⟨t393, t394, t395, t396⟩, A20, H⟩ := H
 (try dsimp -simprocs only at H)
 have A2 := zA_ A20
 clear A20
 replace H := Option.bind_eq_some_iff.mp H
 obtain ⟨⟨t398, t401, t404, t405, t406⟩, A30, H⟩ := H
 (try dsimp -simprocs only at H)
 have A3 := zA_ A30
 clear A30
 replace H := Option.bind_eq_some_iff.mp H
 obtain ⟨⟨t408, t411, t412, t413⟩, A40, H⟩ := H
 (try dsimp -simprocs only at H)
 have A4 := zA_ A40
 clear A40
 simp only [Option.some.injEq, Prod.mk.injEq] at H
 obtain ⟨rfl, rfl, rfl⟩ := H
 go_enter Try.func7, Try.ntmps7
 try go_wp2_with (first | ((with_reducible refine gate_dst (N := 2) rfl ?_); refine box_event ?hg (N := 2) ?hd (cs := #[.slice none 0 0, .slice none 0 0]) (t := 26) ?hr ?_; (case hd => exact (by rfl)); (case hg => exact (by rfl)); (case hr => exact βMb); intro gb392 hg w5 hbox hb; have BK392 := zA_ (hbox); have GW392 := zA_ ((by rw [hg]; exact (below_size (zh_ HB.out)) : w.heap.size ≤ gb392)); have GE392 := zA_ ((by rw [hg]; exact (below_size (zh_ HB.out)) : w.heap.size ≤ gb392)); replace HB := zA_ (below_step (zh_ HB.out) hb); clear hb hbox hg) | ((with_reducible refine gate_callee (f := 43) rfl ?_); refine goesL_ (some 7) rfl rfl Try.func43 βPb rfl #[.slice A0 l0.length c0] rfl zs_ ?_; (with_reducible refine (spec_l01Source.calls k _ _ l0 t393 t394 t395 t396 w _ ?side1 ?side2 ?side3 A2.out).mono ?_); (case side1 => exact (by repeat (first | (with_reducible first | exact HB.out | apply below_alloc | apply pw_below_drewN | apply below_drew1 | refine below_set ?_ GE392.out) | exact HB.out))); (case side2 => exact HR0.out); (case side3 => exact HC0.out); rintro e w6 ⟨g397, rfl, hi, hb, hb2⟩; refine ⟨_, rfl, ?_⟩; replace HB := zA_ (hb); have HI397 := zA_ (hi); have NB397_392 := zA_ (IsS101.ne_blk hi (blk_below (g := gb392) (o := .cells #[.slice none 0 0, .slice none 0 0] 26 (0, 0)) (zb_ BK392.out) hb2) (by decide)); have NB392_397 := zA_ (Ne.symm (IsS101.ne_blk hi (blk_below (g := gb392) (o := .cells #[.slice none 0 0, .slice none 0 0] 26 (0, 0)) (zb_ BK392.out) hb2) (by decide))); replace BK392 := zA_ (blk_below (g := gb392) (o := .cells #[.slice none 0 0, .slice none 0 0] 26 (0, 0)) (zb_ BK392.out) hb2); (try clear hb); (try clear hb2); (try clear hk); (try clear hi)) | ((with_reducible refine gate_callee (f := 44) rfl ?_); refine goesL_ (some 9) rfl rfl Try.func44 βPb rfl #[.pointer (some ⟨g397, 0, none⟩)] rfl zs_ ?_; (with_reducible refine (spec_l01Src_l03Flash.calls k g397 t393 t394 t395 t396 t398 t401 t404 t405 t406 w _ ?side1 ?side2 A3.out).mono ?_); (case side1 => exact βoa); (case side2 => exact βKa); rintro e w7 ⟨v399, v402, rfl, ho0, ho1, hi, hb, hk⟩; refine ⟨_, rfl, ?_⟩; replace BK392 := zA_ (KeepBut.blk hk (g' := gb392) (o := .cells #[.slice none 0 0, .slice none 0 0] 26 (0, 0)) (zb_ BK392.out) NB392_397.out (by simp)); have HO400 := zA_ (Kd.R_lower ho0 (below_size βKa)); have HO403 := zA_ (Kd.R_lower ho1 (below_size βKa)); replace HB := zA_ (hb); replace HI397 := zA_ (hi); (try clear hb); (try clear hb2); (try clear hk); (try clear hi); (try clear ho0); (try clear ho1)) | ((with_reducible refine gate_dst (N := 5) rfl ?_); refine box_event ?hg (N := 5) ?hd (cs := #[.slice none 0 0, .slice none 0 0]) (t := 26) ?hr ?_; (case hd => exact (by rfl)); (case hg => exact (by rfl)); (case hr => exact βMb); intro gb407 hg w8 hbox hb; replace HO400 := zR_ HO400.out hb; replace HO403 := zR_ HO403.out hb; have BK407 := zA_ (hbox); have GW407 := zA_ ((by rw [hg]; exact (below_size βKa) : w.heap.size ≤ gb407)); have GE407 := zA_ ((by rw [hg]; exact (below_size βKa) : w.heap.size ≤ gb407)); replace HB := zA_ (below_step βKa hb); have NB392_407 := zA_ ((by rw [hg]; exact Nat.ne_of_lt (blk_lt (g := gb392) (o := .cells #[.slice none 0 0, .slice none 0 0] 26 (0, 0)) (zb_ BK392.out)) : gb392 ≠ gb407)); have NB407_392 := zA_ ((by rw [hg]; exact Nat.ne_of_gt (blk_lt (g := gb392) (o := .cells #[.slice none 0 0, .slice none 0 0] 26 (0, 0)) (zb_ BK392.out)) : gb407 ≠ gb392)); replace BK392 := zB_ BK392.out hb; have NB397_407 := zA_ ((by rw [hg]; exact Nat.ne_of_lt (IsS101.lt (show IsS101 w _ g397 t393 t404 t405 t406 from by repeat (first | (with_reducible first | exact HI397.out | apply IsS101.alloc | apply IsS101.drewN | apply IsS101.drew | apply IsS101.set_1 | apply IsS101.set_2 | apply IsS101.set_3 | refine IsS101.far ?_ NB397_392.out _) | exact HI397.out))) : g397 ≠ gb407)); have NB407_397 := zA_ ((by rw [hg]; exact Nat.ne_of_gt (IsS101.lt (show IsS101 w _ g397 t393 t404 t405 t406 from by repeat (first | (with_reducible first | exact HI397.out | apply IsS101.alloc | apply IsS101.drewN | apply IsS101.drew | apply IsS101.set_1 | apply IsS101.set_2 | apply IsS101.set_3 | refine IsS101.far ?_ NB397_392.out _) | exact HI397.out))) : gb407 ≠ g397)); replace HI397 := zA_ (IsS101.below βoa hb); clear hb hbox hg; obtain ⟨Ao9, co9, eo9⟩ := Kd.R_slice HO400.out; subst eo9; have hnb10 := NB407_392.out; have hnc10 := NB392_407.out; have hnb11 := NB407_397.out; have hnc11 := NB397_407.out; have hcz12_0 := cz_ BK407.out 0 (.slice none 0 0) rfl; have hcz12_1 := cz_ BK407.out 1 (.slice none 0 0) rfl; have hfz12_0 := blk_frozen BK407.out 0; have hfz12_1 := blk_frozen BK407.out 1; obtain ⟨Ao13, co13, eo13⟩ := Kd.R_slice HO403.out; subst eo13))
 have n0_ : Aside0 (Kd.R Kd.string 9 ((w8.setCell ⟨gb407, 0, none⟩ (.slice Ao9 t398.length co9)).setCell ⟨gb407, 1, none⟩ (.slice Ao13 t401.length co13)) w.heap.size (fun _ => True) (.slice Ao9 t398.length co9) t398) := ⟨(by (with_reducible repeat (first | apply Kd.R_alloc | apply Kd.R_drewN | apply Kd.R_drew)); exact Kd.R_mono (Kd.R_far (p := ⟨gb407, 1, none⟩) (Kd.R_far (p := ⟨gb407, 0, none⟩) (Kd.R_types HO400.out BK407.out (by decide)) (fun _ hk => hk.2) (.slice Ao9 t398.length co9)) (fun _ hk => hk.2) (.slice Ao13 t401.length co13)) (fun _ hk => trivial))⟩
 have n1_ : Aside0 (Kd.R k83 83 ((w8.setCell ⟨gb407, 0, none⟩ (.slice Ao9 t398.length co9)).setCell ⟨gb407, 1, none⟩ (.slice Ao13 t401.length co13)) w.heap.size (fun _ => True) (.slice Ao13 t401.length co13) t401) := ⟨(by (with_reducible repeat (first | apply Kd.R_alloc | apply Kd.R_drewN | apply Kd.R_drew)); exact Kd.R_mono (Kd.R_far (p := ⟨gb407, 1, none⟩) (Kd.R_far (p := ⟨gb407, 0, none⟩) (Kd.R_types HO403.out BK407.out (by decide)) (fun _ hk => hk.2) (.slice Ao9 t398.length co9)) (fun _ hk => hk.2) (.slice Ao13 t401.length co13)) (fun _ hk => trivial))⟩
 have n2_ : Aside0 (((w8.setCell ⟨gb407, 0, none⟩ (.slice Ao9 t398.length co9)).setCell ⟨gb407, 1, none⟩ (.slice Ao13 t401.length co13)).heap[gb392]? = some (.cells #[.slice none 0 0, .slice none 0 0] 26 (0, 0))) := ⟨zf2_ NB392_407.out NB392_407.out BK392.out⟩
 have n3_ : Aside0 (((w8.setCell ⟨gb407, 0, none⟩ (.slice Ao9 t398.length co9)).setCell ⟨gb407, 1, none⟩ (.slice Ao13 t401.length co13)).heap[gb407]? = some (.cells #[.slice Ao9 t398.length co9, .slice Ao13 t401.length co13] 26 (0, 0))) := ⟨(by (with_reducible repeat (first | refine blk_drewN ?_ _ | refine blk_drew ?_ | refine blk_alloc ?_ _)); refine blk_put (cs := #[.slice Ao9 t398.length co9, .slice none 0 0]) ?_ 1 _ rfl; (with_reducible repeat (first | refine blk_drewN ?_ _ | refine blk_drew ?_ | refine blk_alloc ?_ _)); refine blk_put (cs := #[.slice none 0 0, .slice none 0 0]) ?_ 0 _ rfl; (with_reducible repeat (first | refine blk_drewN ?_ _ | refine blk_drew ?_ | refine blk_alloc ?_ _)); exact BK407.out)⟩
 have n4_ : Aside0 (IsS101 w ((w8.setCell ⟨gb407, 0, none⟩ (.slice Ao9 t398.length co9)).setCell ⟨gb407, 1, none⟩ (.slice Ao13 t401.length co13)) g397 t393 t404 t405 t406) := ⟨βT⟩
 have n5_ : Aside0 (Below w.heap.size w ((w8.setCell ⟨gb407, 0, none⟩ (.slice Ao9 t398.length co9)).setCell ⟨gb407, 1, none⟩ (.slice Ao13 t401.length co13))) := ⟨βla⟩
 (try clear HO400)
 (try clear HO403)
 (try clear BK392)
 (try clear BK407)
 (try clear HI397)
 (try clear HB)
 generalize ((w8.setCell ⟨gb407, 0, none⟩ (.slice Ao9 t398.length co9)).setCell ⟨gb407, 1, none⟩ (.slice Ao13 t401.length co13)) = w14 at n0_ n1_ n2_ n3_ n4_ n5_ ⊢
 have HO400 := n0_
 have HO403 := n1_
 have BK392 := n2_
 have BK407 := n3_
 have HI397 := n4_
 have HB := n5_
 clear n0_ n1_ n2_ n3_ n4_ n5_
 replace HO400 := zA_ (Kd.R_drew HO400.out)
 replace HO403 := zA_ (Kd.R_drew HO403.out)
 replace BK392 := zA_ (blk_drew BK392.out)
 replace BK407 := zA_ (blk_drew BK407.out)
 replace HI397 := zA_ (IsS101.drew HI397.out)
 replace HB := zA_ (below_drew1 HB.out)
 refine start_ (n := 5) (S := fun w' => w'.cell? ⟨gb407, 0, none⟩ = some (.slice Ao9 t398.length co9) ∧ w'.cell? ⟨gb407, 1, none⟩ = some (.slice Ao13 t401.length co13)) (ds := []) #[false, false, false, false, false] βPb rfl rfl ⟨cy_ BK407.out 0, cy_ BK407.out 1⟩ (fun hHeld => ?_)
 generalize w14.drew = w15 at HO400 HO403 BK392 BK407 HI397 HB hHeld ⊢
 refine pure_ (i := 1) (N := some 11) (v := ?_) (a' := ?_) #[false, true, false, false, false] rfl rfl βPb (fun _ _ _ h => h) (Or.inl ⟨(by rfl), ?_⟩) ?_ ?_
 rotate_left; exact pv_; rotate_left; exact pp_
 refine take_ (i := 0) (N := some 10) (v := ?_) (a' := ?_) #[true, true, false, false, false] rfl rfl βPb (fun _ _ _ h => h) (Or.inl ⟨(by rfl), ?_⟩) hHeld ?_ ?_
 rotate_left
 · rintro w' ⟨s0, s1⟩
   go_simp
   with_reducible rfl
 rotate_left
 exact pp_
 refine one_ (i := 2) (N := some 12) #[true, true, true, false, false] rfl rfl βPb (by decide) (fun K hK => ?_)
 refine goes_ Try.func52 βPb rfl #[.pointer (some ⟨g397, 0, none⟩)] (by rfl) rfl rfl zs_ ?_
 with_reducible refine (spec_l01Src_l03Fates.calls k g397 t393 t404 t405 t406 t408 t411 t412 t413 w _ ?side1 ?side2 A4.out).mono ?_
 (case side1 => exact βT)
 (case side2 => exact βla)
 rintro e w16 ⟨v409, rfl, ho0, hi, hb, hk⟩
 refine ⟨_, rfl, ?_⟩
 replace BK392 := zA_ (KeepBut.blk hk (g' := gb392) (o := .cells #[.slice none 0 0, .slice none 0 0] 26 (0, 0)) (zb_ BK392.out) NB392_397.out (by simp))
 replace HO400 := zA_ (Kd.R_mono (Kd.R_keep (IsS101.apart (show IsS101 w _ g397 t393 t404 t405 t406 from by repeat (first | (with_reducible first | exact HI397.out | apply IsS101.alloc | apply IsS101.drewN | apply IsS101.drew | apply IsS101.set_1 | apply IsS101.set_2 | apply IsS101.set_3 | refine IsS101.far ?_ NB397_392.out _ | refine IsS101.far ?_ NB397_407.out _) | exact HI397.out)) (zr_ HO400.out) (by decide)) hk (fun _ h => h.2)) (fun _ h => h.1))
 replace HO403 := zA_ (Kd.R_mono (Kd.R_keep (IsS101.apart (show IsS101 w _ g397 t393 t404 t405 t406 from by repeat (first | (with_reducible first | exact HI397.out | apply IsS101.alloc | apply IsS101.drewN | apply IsS101.drew | apply IsS101.set_1 | apply IsS101.set_2 | apply IsS101.set_3 | refine IsS101.far ?_ NB397_392.out _ | refine IsS101.far ?_ NB397_407.out _) | exact HI397.out)) (zr_ HO403.out) (by decide)) hk (fun _ h => h.2)) (fun _ h => h.1))
 replace BK407 := zA_ (KeepBut.blk hk (g' := gb407) (o := .cells #[.slice Ao9 t398.length co9, .slice Ao13 t401.length co13] 26 (0, 0)) (zb_ BK407.out) NB407_397.out (by simp))
 have HO410 := zA_ (Kd.R_lower ho0 (below_size βla))
 replace HB := zA_ (hb)
 replace HI397 := zA_ (hi)
 (try clear hb)
 (try clear hb2)
 (try clear hk)
 (try clear hi)
 (try clear ho0)
 refine hK.out _ _ ⟨cy_ BK407.out 0, cy_ BK407.out 1⟩ (fun hHeld => ?_)
 clear hK K
 refine norm_ (a' := ?_) ?_ ?_
 rotate_left
 · show Act.put _ (some 12) _ = _
   simp only [Act.put, List.setIfInBounds_toArray, List.set_cons_zero, List.set_cons_succ, i64_w, i32_w]
   rfl
 refine one_ (i := 3) (N := none) #[true, true, true, true, false] rfl rfl βPb (by decide) (fun K hK => ?_)
 have hs17 := cz_ BK392.out 0 (.slice none 0 0) rfl
 have hfs17 := blk_frozen BK392.out 0
 have hns17_1 := NB407_392.out
 have hms17_1 := NB392_407.out
 have hs18 := cz_ BK392.out 1 (.slice none 0 0) rfl
 have hfs18 := blk_frozen BK392.out 1
 have hns18_1 := NB407_392.out
 have hms18_1 := NB392_407.out
 refine skip_ (w1 := ?_) (by rfl) rfl ?_ ?_
 rotate_left
 · go_simp
   rfl
 refine hK.out _ _ ⟨((cell_far (p := ⟨gb392, _, none⟩) NB407_392.out _).trans (((cell_far (p := ⟨gb392, _, none⟩) NB407_392.out _).trans (hHeld.1)))), ((cell_far (p := ⟨gb392, _, none⟩) NB407_392.out _).trans (((cell_far (p := ⟨gb392, _, none⟩) NB407_392.out _).trans (hHeld.2))))⟩ (fun hHeld => ?_)
 clear hK K
 refine pure_ (i := 4) (N := some 3) (v := ?_) (a' := ?_) #[true, true, true, true, true] rfl rfl βPb (fun _ _ _ h => h) (Or.inl ⟨(by rfl), ?_⟩) ?_ ?_
 rotate_left; exact pv_; rotate_left; exact pp_
 refine done_ βPb ?_
 try go_wp2
 refine bodyPost_ret (results_ct rfl _ _ gb392 26 #[.slice Ao9 t398.length co9, .slice Ao13 t401.length co13] (0, 0) _ rfl (by (with_reducible repeat (first | refine blk_drewN ?_ _ | refine blk_drew ?_ | refine blk_alloc ?_ _)); refine blk_put (cs := #[.slice Ao9 t398.length co9, .slice none 0 0]) ?_ 1 _ rfl; (with_reducible repeat (first | refine blk_drewN ?_ _ | refine blk_drew ?_ | refine blk_alloc ?_ _)); refine blk_put (cs := #[.slice none 0 0, .slice none 0 0]) ?_ 0 _ rfl; (with_reducible repeat (first | refine blk_drewN ?_ _ | refine blk_drew ?_ | refine blk_alloc ?_ _)); exact BK392.out) Try.underlying26 rfl βPb) rfl ?_
 exact ⟨_, _, _, βFb, (by (with_reducible repeat (first | apply Kd.R_alloc | apply Kd.R_drewN | apply Kd.R_drew)); exact Kd.R_mono (Kd.R_far (p := ⟨gb392, 1, none⟩) (Kd.R_far (p := ⟨gb392, 0, none⟩) (Kd.R_types HO400.out BK392.out (by decide)) (fun _ hk => hk.2) (.slice Ao9 t398.length co9)) (fun _ hk => hk.2) (.slice Ao13 t401.length co13)) (fun _ hk => trivial)), (by (with_reducible repeat (first | apply Kd.R_alloc | apply Kd.R_drewN | apply Kd.R_drew)); exact Kd.R_mono (Kd.R_far (p := ⟨gb392, 1, none⟩) (Kd.R_far (p := ⟨gb392, 0, none⟩) (Kd.R_types HO403.out BK392.out (by decide)) (fun _ hk => hk.2) (.slice Ao9 t398.length co9)) (fun _ hk => hk.2) (.slice Ao13 t401.length co13)) (fun _ hk => trivial)), (by (with_reducible repeat (first | apply Kd.R_alloc | apply Kd.R_drewN | apply Kd.R_drew)); exact Kd.R_mono (Kd.R_far (p := ⟨gb392, 1, none⟩) (Kd.R_far (p := ⟨gb392, 0, none⟩) (Kd.R_types HO410.out BK392.out (by decide)) (fun _ hk => hk.2) (.slice Ao9 t398.length co9)) (fun _ hk => hk.2) (.slice Ao13 t401.length co13)) (fun _ hk => trivial)), βla⟩
def impl_torn.f (a0 : ByteArray) (a1 : ByteArray) (a2 : Int) : Option (ByteArray) := if a2 < 1 then (some a0) else (if a2 = 1 then (some a1) else (if 0 ≤ (mn (wrap64 (a2 - 2)) (a1.size : Int)) then (if (mn (wrap64 (a2 - 2)) (a1.size : Int)) ≤ (a1.size : Int) then (some (a1.extract 0 ((mn (wrap64 (a2 - 2)) (a1.size : Int)) : Int).toNat)) else (none)) else (none)))
theorem impl_torn.calls (a0 : ByteArray) (a1 : ByteArray) (a2 : Int) (r : ByteArray) (w : World) (h : impl_torn.f a0 a1 a2 = some r) :
 Calls Try.prog 65 #[.string a0, .string a1, .int .i64 a2] w fun e w' => e = .returned (.string r) ∧ Below w.heap.size w w' := by
 have HB := zA_ (Below.refl w.heap.size w)
 have H : (if a2 < 1 then (some a0) else (if a2 = 1 then (some a1) else (if 0 ≤ (mn (wrap64 (a2 - 2)) (a1.size : Int)) then (if (mn (wrap64 (a2 - 2)) (a1.size : Int)) ≤ (a1.size : Int) then (some (a1.extract 0 ((mn (wrap64 (a2 - 2)) (a1.size : Int)) : Int).toNat)) else (none)) else (none)))) = some r := h
 clear h
 by_cases c4 : a2 < 1
 · rw [if_pos c4] at H
   have c4b0 : decide (a2 < 1) = true := decide_eq_true c4
   clear c4
   obtain rfl := Option.some.inj H
   go_enter Try.func65, Try.ntmps65
   go_wp2
   go_ret
   exact ⟨βFb, βCb⟩
 · rw [if_neg c4] at H
   have c4b0 : decide (a2 < 1) = false := decide_eq_false c4
   clear c4
   by_cases c5 : a2 = 1
   · rw [if_pos c5] at H
     have c5b0 : (a2 == 1) = true := beq_iff_eq.mpr c5
     have c5b1 : (a2 != 1) = false := bne_eq_false_iff_eq.mpr c5
     clear c5
     obtain rfl := Option.some.inj H
     go_enter Try.func65, Try.ntmps65
     go_wp2
     go_ret
     exact ⟨βFb, βCb⟩
   · rw [if_neg c5] at H
     have c5b0 : (a2 == 1) = false := beq_eq_false_iff_ne.mpr c5
     have c5b1 : (a2 != 1) = true := bne_iff_ne.mpr c5
     obtain ⟨ji6, hji6⟩ : ∃ j_ : Int, (mn (wrap64 (a2 - 2)) (a1.size : Int)) = j_ := ⟨_, rfl⟩
     replace H : (if 0 ≤ (ji6) then (if (ji6) ≤ (a1.size : Int) then (some (a1.extract 0 ((ji6) : Int).toNat)) else (none)) else (none)) = some r := by first | (rw [hji6] at H; exact H) | (simp only [hji6] at H ⊢; exact H)
     have hji6_ : (if (a1.size : Int) < (wrap64 (a2 - 2)) then (a1.size : Int) else (wrap64 (a2 - 2))) = ji6 := hji6
     by_cases c7 : 0 ≤ (ji6)
     · rw [if_pos c7] at H
       have c7b0 := eq_true c7
       have c7b1 : decide (0 ≤ (ji6)) = true := decide_eq_true c7
       clear c7
       by_cases c8 : (ji6) ≤ (a1.size : Int)
       · rw [if_pos c8] at H
         have c8b0 := eq_true c8
         have c8b1 : decide ((ji6) ≤ (a1.size : Int)) = true := decide_eq_true c8
         clear c8
         obtain rfl := Option.some.inj H
         go_enter Try.func65, Try.ntmps65
         go_wp2
         go_ret
         exact ⟨(by first | rfl | (simp [errW_none, errW_some] <;> rfl) | (simp only [← hji6]; first | rfl | (simp [errW_none, errW_some] <;> rfl)) | (simp [*, errW_none, errW_some] <;> rfl)), βCb⟩
       · rw [if_neg c8] at H
         exact absurd H (by simp)
     · rw [if_neg c7] at H
       exact absurd H (by simp)
def impl_Flash_crashed (fates : List Int) : List S83 → Int → List ByteArray → Option (List ByteArray)
 | [], _, S => some S
 | x :: r, i, S => (impl_torn.f (rdOf ByteArray.empty S x.f0) x.f1 (if i < (fates.length : Int) then rd fates i else 0)).bind fun t => impl_Flash_crashed fates r (i + 1) (S.set x.f0.toNat t)
def impl_Flash_crash.T6 : Bool × List (List Nat × List Nat) := (true, [([], []), ([0], [0]), ([1], [1]), ([2], [2]), ([], []), ([4], [4]), ([], []), ([6], [6]), ([7], [7]), ([8], [8]), ([], []), ([10], [10]), ([9, 11], [9, 11]), ([12], [12]), ([], []), ([14], [14]), ([], []), ([13, 15, 16], [13, 15, 16]), ([3, 5, 0, 1, 2, 3, 4, 5, 6, 7, 8, 9, 10, 11, 12, 13, 14, 15, 16, 17], [3, 5]), ([18, 17, 17, 0, 1, 2, 3, 4, 5, 6, 7, 8, 9, 10, 11, 12, 13, 14, 15, 16, 17], [17, 18])])
def impl_Flash_crash.B6 : List Nat := [0, 1, 3, 7, 0, 16, 0, 64, 192, 448, 0, 1024, 4032, 8128, 0, 16384, 0, 131008, 262143, 524287]
theorem impl_Flash_crash.tab6 : rtab .any (opsOf Try.f53 6) = impl_Flash_crash.T6 := by kernel_rfl
theorem impl_Flash_crash.bits6 : waitsOk impl_Flash_crash.T6.2 impl_Flash_crash.B6 = true := by kernel_rfl
theorem impl_Flash_crash.calls (w0 : World) (base g : Nat) (S : List ByteArray) (D : List S83) (A2 : Option Addr) (c2 : Nat) (l2 : List Int) (R : List ByteArray) (w : World) (hF : FB w base g S D) (hB : Below base w0 w) (hbase : base ≤ w.heap.size) (hbig : D.length ≤ 1000000) (hat : ∀ x ∈ D, 0 ≤ x.f0 ∧ x.f0 < (S.length : Int)) (hw0 : w0.heap.size ≤ base) (hr2 : Kd.C (Kd.int .i64) w0 A2 l2.length l2) (hc2 : l2.length ≤ c2) (h2 : l2.length ≤ 9223372036854775807) (hR : impl_Flash_crashed l2 D 0 S = some R) :
 Calls Try.prog 53 #[.pointer (some ⟨g, 0, none⟩), .slice A2 l2.length c2] w fun e w' => e = .returned (.tuple #[]) ∧ FB w' base g R [] ∧ Below base w0 w' ∧ w.heap.size ≤ w'.heap.size := by
 have hu30 := Try.underlying26
 have hu92 := Try.underlying83
 obtain ⟨v0, v1, hblk, hge, hS, hD⟩ := hF
 obtain ⟨A0, c0, rfl, hc0, hC0⟩ := Kd.R_reads hS
 obtain ⟨A1, c1, rfl, hc1, hC1⟩ := Kd.R_reads hD
 have b0 := (blk_cell hblk 0).trans (rfl : _ = some (Value.slice A0 S.length c0))
 have b1 := (blk_cell hblk 1).trans (rfl : _ = some (Value.slice A1 D.length c1))
 have HBLK := zA_ hblk
 have HGE := zA_ hge
 have HS := zA_ hS
 have HD := zA_ hD
 have HB := zA_ hB
 have HBASE := zA_ hbase
 have HBIG := zA_ hbig
 have HAT := zA_ hat
 have HW0 := zA_ hw0
 have HR2 := zA_ hr2
 have HC2 := zA_ hc2
 have HL2 := zA_ h2
 have HRR := zA_ hR
 clear hblk hge hS hD hB hbase hc0 hc1 hC0 hC1 hbig hat hw0 hr2 hc2 h2 hR
 go_enter Try.func53, Try.ntmps53
 go_wp2_with (fail)
 clear b0 b1
 go_loopg [4, 5, 6, 12] D.length (fun gg _ _ _ v9 wr => ∃ (kk : Nat) (S' : List ByteArray), v9 = .int .i64 kk ∧ Aside0 (kk ≤ D.length ∧ D.length - kk ≤ gg ∧ S'.length = S.length ∧ w.heap.size ≤ wr.heap.size) ∧ Aside0 (wr.heap[g]? = some (.cells #[.slice A0 S.length c0, .slice A1 D.length c1] 26 (0, 0))) ∧ Aside0 (Kd.R Kd.string 9 wr base (fun _ => True) (.slice A0 S.length c0) S') ∧ Aside0 (Kd.R k83 83 wr base (fun _ => True) (.slice A1 D.length c1) D) ∧ Aside0 (Below base w0 wr) ∧ Aside0 (impl_Flash_crashed l2 (D.drop kk) (kk : Int) S' = some R))
 case atStart => exact ⟨0, S, rfl, ⟨(by omega)⟩, HBLK, HS, HD, HB, ⟨HRR.out⟩⟩
 case round =>
  clear HBLK HS HD HB HRR
  obtain ⟨kk, S', rfl, HN, HBLK, HS, HD, HB, HX⟩ := hrel
  by_cases hlt : kk < D.length
  · have hltz : decide ((kk : Int) < (D.length : Int)) = true := decide_eq_true (by omega)
    have pk : (0 : Int) ≤ (kk : Int) := by omega
    have qk : (kk : Int) < (D.length : Int) := by omega
    have hC1 := (Kd.R_reads' HD.out).2.2
    obtain ⟨ad, rfl, hx0, hx1⟩ := at_T83 hC1 (kk : Int) pk qk
    have hy : rd_T83 D (kk : Int) = D[kk] := by simp [rd_T83, hlt]
    rw [hy] at hx0 hx1
    simp only [Int.toNat_natCast] at hx0 hx1
    have hax := HAT.out D[kk] (List.getElem_mem hlt)
    have HX2 := HX.out
    rw [idxFrom_drop D kk hlt, impl_Flash_crashed] at HX2
    clear HX hy hC1
    generalize D[kk] = x at hx0 hx1 hax HX2
    obtain ⟨tv, htv, HX2⟩ := Option.bind_eq_some_iff.1 HX2
    have HX := zA_ HX2
    clear HX2
    obtain ⟨gs, cp, ef, hgs, hgsl, cells, hcells⟩ := Kd.R_form HS.out (by have := HN.out; omega)
    have hS'l := HN.out.2.2.1
    rw [hS'l] at ef
    cases ef
    have hSA := Kd.R_alloc HS.out (.cells #[.int .i64 x.f0, .string x.f1] 83)
    obtain ⟨ce, hcl, hM, hcc, hfr⟩ := Kd.R_elem hSA ByteArray.empty x.f0 hax.1 (by omega)
    simp only [show Kd.string.sz = 1 from rfl, Nat.mul_one, Nat.add_zero] at hcc hfr
    obtain rfl := (show ce = [_] from hM)
    have i0 : (wr.alloc (.cells #[.int .i64 x.f0, .string x.f1] 83)).cell? ⟨gs, x.f0.toNat, none⟩ = some (.string (rdOf ByteArray.empty S' x.f0)) := hcc 0 _ rfl
    have hb0 : ∀ o, (wr.alloc o).cell? ⟨g, 0, none⟩ = some (.slice (some ⟨gs, 0, none⟩) S.length c0) := fun o => (blk_cell (blk_alloc HBLK.out o) 0).trans rfl
    have hb1 : ∀ o, (wr.alloc o).cell? ⟨g, 1, none⟩ = some (.slice (some ad) D.length c1) := fun o => (blk_cell (blk_alloc HBLK.out o) 1).trans rfl
    have px : (0 : Int) ≤ x.f0 := hax.1
    have qx : x.f0 < (S.length : Int) := hax.2
    have HGS := zA_ hgs
    have ek : wrap64 ((kk : Int) + 1) = ((kk + 1 : Nat) : Int) := by have := HBIG.out; unfold wrap64; omega
    have HBA := zA_ (HB.out.alloc (show base ≤ wr.heap.size by have := HN.out; have := HBASE.out; omega) (.cells #[.int .i64 x.f0, .string x.f1] 83))
    have HDA := zA_ (Kd.R_alloc HD.out (.cells #[.int .i64 x.f0, .string x.f1] 83))
    have HBLKA := zA_ (blk_alloc HBLK.out (.cells #[.int .i64 x.f0, .string x.f1] 83))
    have HSA := zA_ hSA
    have HNE := zA_ (Kd.R_ne hSA HBLKA.out (by decide))
    have HSD := zA_ (Kd.R_drew HSA.out)
    have HDD := zA_ (Kd.R_drew HDA.out)
    have HBLKD := zA_ (blk_drew HBLKA.out)
    have HND := zA_ (blk_drew (blk_new wr (.cells #[.int .i64 x.f0, .string x.f1] 83)))
    have HBD := zA_ (below_drew HBA.out)
    have HZD := zA_ (show (wr.alloc (.cells #[.int .i64 x.f0, .string x.f1] 83)).drew.heap.size = wr.heap.size + 1 by show (wr.alloc _).heap.size = _; simp)
    have I0 := zA_ (show (wr.alloc (.cells #[.int .i64 x.f0, .string x.f1] 83)).drew.cell? ⟨gs, x.f0.toNat, none⟩ = some (.string (rdOf ByteArray.empty S' x.f0)) from i0)
    clear hSA hcl hM hcc hfr hgs hgsl hcells i0 hb0 hb1
    by_cases hfl : kk < l2.length
    · have hfb : decide ((kk : Int) < (l2.length : Int)) = true := decide_eq_true (by omega)
      have hfc : decide (kk < l2.length) = true := decide_eq_true hfl
      have qf : (kk : Int) < (l2.length : Int) := by omega
      rw [if_pos qf] at htv
      have HTV := zA_ htv
      obtain ⟨af, rfl, hf0⟩ := Kd.at_int HR2.out (kk : Int) pk qf
      simp only [Int.toNat_natCast] at hf0
      have hbl := World.block_lt_of_cell? _ _ hf0
      replace hf0 := (HBA.out.cell (Nat.lt_of_lt_of_le hbl HW0.out)).trans hf0
      clear htv hfl hbl
      go_wp2
      refine start_ (n := 20) (S := fun w' => w'.cell? ⟨g, 0, none⟩ = some (.slice (some ⟨gs, 0, none⟩) S.length c0) ∧ w'.cell? ⟨wr.heap.size, 0, none⟩ = some (.int .i64 x.f0) ∧ w'.cell? ⟨wr.heap.size, 1, none⟩ = some (.string x.f1) ∧ w'.cell? ⟨gs, x.f0.toNat, none⟩ = some (.string (rdOf ByteArray.empty S' x.f0))) (ds := [19]) (mr_ [0, 20]) βPb rfl rfl ⟨cy_ HBLKD.out 0, cy_ HND.out 0, cy_ HND.out 1, I0.out⟩ (fun hHeld => ?_)
      refine with_tabW impl_Flash_crash.tab6 impl_Flash_crash.bits6 (fun HT_ HW_ => ?_)
      generalize (wr.alloc (.cells #[.int .i64 x.f0, .string x.f1] 83)).drew = wd at HSD HDD HBLKD HND HBD HZD I0 hHeld ⊢
      refine pure_ (i := 0) (N := some 25) (v := ?_) (a' := ?_) (mr_ [1, 19]) rfl rfl (any_of HT_.out βPb) (fun _ _ _ h => h) (Or.inl ⟨(by rfl), ?_⟩) ?_ ?_
      rotate_left; exact pv_; rotate_left; exact pp_
      refine pure_ (i := 1) (N := some 26) (v := ?_) (a' := ?_) (mr_ [2, 18]) rfl rfl (any_of HT_.out βPb) (fun _ _ _ h => h) (Or.inl ⟨(by rfl), ?_⟩) ?_ ?_
      rotate_left; exact pv_; rotate_left; exact pp_
      refine pure_ (i := 2) (N := some 27) (v := ?_) (a' := ?_) (mr_ [3, 17]) rfl rfl (any_of HT_.out βPb) (fun _ _ _ h => h) (Or.inl ⟨(by rfl), ?_⟩) ?_ ?_
      rotate_left; exact pv_; rotate_left; exact pp_
      refine take_ (i := 3) (N := some 28) (v := ?_) (a' := ?_) (mr_ [4, 16]) rfl rfl (take_ofW HT_.out HW_.out βPb) (fun _ _ _ h => h) (Or.inl ⟨(by rfl), ?_⟩) hHeld ?_ ?_
      rotate_left
      · rintro w' ⟨s0, s1, s2, s3⟩
        go_simp
        with_reducible rfl
      rotate_left
      exact pp_
      refine pure_ (i := 4) (N := some 29) (v := ?_) (a' := ?_) (mr_ [5, 15]) rfl rfl (any_of HT_.out βPb) (fun _ _ _ h => h) (Or.inl ⟨(by rfl), ?_⟩) ?_ ?_
      rotate_left; exact pv_; rotate_left; exact pp_
      refine take_ (i := 5) (N := some 30) (v := ?_) (a' := ?_) (mr_ [6, 14]) rfl rfl (take_ofW HT_.out HW_.out βPb) (fun _ _ _ h => h) (Or.inl ⟨(by rfl), ?_⟩) hHeld ?_ ?_
      rotate_left
      · rintro w' ⟨s0, s1, s2, s3⟩
        go_simp
        with_reducible rfl
      rotate_left
      exact pp_
      refine pure_ (i := 6) (N := some 31) (v := ?_) (a' := ?_) (mr_ [7, 13]) rfl rfl (any_of HT_.out βPb) (fun _ _ _ h => h) (Or.inl ⟨(by rfl), ?_⟩) ?_ ?_
      rotate_left; exact pv_; rotate_left; exact pp_
      refine pure_ (i := 7) (N := some 32) (v := ?_) (a' := ?_) (mr_ [8, 12]) rfl rfl (any_of HT_.out βPb) (fun _ _ _ h => h) (Or.inl ⟨(by rfl), ?_⟩) ?_ ?_
      rotate_left; exact pv_; rotate_left; exact pp_
      refine pure_ (i := 8) (N := some 33) (v := ?_) (a' := ?_) (mr_ [9, 11]) rfl rfl (any_of HT_.out βPb) (fun _ _ _ h => h) (Or.inl ⟨(by rfl), ?_⟩) ?_ ?_
      rotate_left; exact pv_; rotate_left; exact pp_
      refine take_ (i := 9) (N := some 34) (v := ?_) (a' := ?_) (mr_ [10, 10]) rfl rfl (take_ofW HT_.out HW_.out βPb) (fun _ _ _ h => h) (Or.inl ⟨(by rfl), ?_⟩) hHeld ?_ ?_
      rotate_left
      · rintro w' ⟨s0, s1, s2, s3⟩
        go_simp
        with_reducible rfl
      rotate_left
      exact pp_
      refine pure_ (i := 10) (N := some 35) (v := ?_) (a' := ?_) (mr_ [11, 9]) rfl rfl (any_of HT_.out βPb) (fun _ _ _ h => h) (Or.inl ⟨(by rfl), ?_⟩) ?_ ?_
      rotate_left; exact pv_; rotate_left; exact pp_
      refine take_ (i := 11) (N := some 36) (v := ?_) (a' := ?_) (mr_ [12, 8]) rfl rfl (take_ofW HT_.out HW_.out βPb) (fun _ _ _ h => h) (Or.inl ⟨(by rfl), ?_⟩) hHeld ?_ ?_
      rotate_left
      · rintro w' ⟨s0, s1, s2, s3⟩
        go_simp
        with_reducible rfl
      rotate_left
      exact pp_
      refine pure_ (i := 12) (N := some 37) (v := ?_) (a' := ?_) (mr_ [13, 7]) rfl rfl (any_of HT_.out βPb) (fun _ _ _ h => h) (Or.inl ⟨(by rfl), ?_⟩) ?_ ?_
      rotate_left; exact pv_; rotate_left; exact pp_
      refine take_ (i := 13) (N := some 38) (v := ?_) (a' := ?_) (mr_ [14, 6]) rfl rfl (take_ofW HT_.out HW_.out βPb) (fun _ _ _ h => h) (Or.inl ⟨(by rfl), ?_⟩) hHeld ?_ ?_
      rotate_left
      · rintro w' ⟨s0, s1, s2, s3⟩
        go_simp
        with_reducible rfl
      rotate_left
      exact pp_
      refine pure_ (i := 14) (N := some 39) (v := ?_) (a' := ?_) (mr_ [15, 5]) rfl rfl (any_of HT_.out βPb) (fun _ _ _ h => h) (Or.inl ⟨(by rfl), ?_⟩) ?_ ?_
      rotate_left; exact pv_; rotate_left; exact pp_
      refine take_ (i := 15) (N := some 40) (v := ?_) (a' := ?_) (mr_ [16, 4]) rfl rfl (take_ofW HT_.out HW_.out βPb) (fun _ _ _ h => h) (Or.inl ⟨(by rfl), ?_⟩) hHeld ?_ ?_
      rotate_left
      · rintro w' ⟨s0, s1, s2, s3⟩
        go_simp
        with_reducible rfl
      rotate_left
      exact pp_
      refine pure_ (i := 16) (N := some 41) (v := ?_) (a' := ?_) (mr_ [17, 3]) rfl rfl (any_of HT_.out βPb) (fun _ _ _ h => h) (Or.inl ⟨(by rfl), ?_⟩) ?_ ?_
      rotate_left; exact pv_; rotate_left; exact pp_
      refine one_ (i := 17) (N := some 42) (mr_ [18, 2]) rfl rfl (one_of HT_.out βPb) (by decide) (fun K hK => ?_)
      refine goes_ Try.func65 βPb rfl #[.string (rdOf ByteArray.empty S' x.f0), .string x.f1, .int .i64 (rd l2 (kk : Int))] (by rfl) rfl rfl (by (try simp only [List.map_toArray, List.map_cons, List.map_nil]); first | done | rfl) ?_
      refine (impl_torn.calls _ x.f1 _ tv _ HTV.out).mono ?_
      rintro e w2 ⟨rfl, hb2⟩
      refine ⟨_, rfl, ?_⟩
      have hS2 := Kd.R_below HSD.out hb2
      have HD2 := zA_ (Kd.R_below HDD.out hb2)
      have HB2 := zA_ (below_then HBD.out (show base ≤ wd.heap.size by have h1 := HN.out; have h2 := HBASE.out; have h3 := HZD.out; omega) hb2)
      have HBLK2 := zA_ (blk_below HBLKD.out hb2)
      have HN2 := zA_ (blk_below HND.out hb2)
      have HZ2 := zA_ hb2.size
      obtain ⟨ce2, hcl2, hM2, hcc2, hfr2⟩ := Kd.R_elem hS2 ByteArray.empty x.f0 hax.1 (by omega)
      have HP1 := Kd.R_seg hS2 x.f0 hax.1 (by omega) (seg := [.string tv]) (j := 0) (okp := fun _ => False) hcl2 hcc2 (Nat.le_refl 1) (x' := tv) (by obtain rfl := (show ce2 = [_] from hM2); exact rfl) (fun _ hk => hk.elim)
      simp only [show Kd.string.sz = 1 from rfl, Nat.mul_one, Nat.add_zero] at hcc2 hfr2 HP1
      have HPP := zA_ HP1
      obtain rfl := (show ce2 = [_] from hM2)
      have j0 : w2.cell? ⟨gs, x.f0.toNat, none⟩ = some (.string (rdOf ByteArray.empty S' x.f0)) := hcc2 0 _ rfl
      have k0 : w2.frozen? ⟨gs, x.f0.toNat, none⟩ = false := hfr2 0
      have HNE2 := zA_ (Kd.R_ne hS2 HBLK2.out (by decide))
      have HS2 := zA_ hS2
      clear hS2 hcl2 hM2 hcc2 hfr2 HP1 hb2
      refine hK.out _ _ ⟨cy_ HBLK2.out 0, cy_ HN2.out 0, cy_ HN2.out 1, j0⟩ (fun hHeld => ?_)
      clear hK K
      refine norm_ (a' := ?_) ?_ ?_
      rotate_left
      · show Act.put _ (some 42) _ = _
        simp only [Act.put, List.setIfInBounds_toArray, List.set_cons_zero, List.set_cons_succ, i64_w, i32_w]
        rfl
      refine pure_ (i := 18) (N := some 43) (v := ?_) (a' := ?_) (mr_ [19, 1]) rfl rfl (any_of HT_.out βPb) (fun _ _ _ h => h) (Or.inl ⟨(by rfl), ?_⟩) ?_ ?_
      rotate_left; exact pv_; rotate_left; exact pp_
      refine last_ (i := 19) (N := none) (mr_ [20]) rfl rfl (one_of HT_.out βPb) (by decide) (fun K hK => ?_)
      refine skip_ (w1 := ?_) (by rfl) rfl ?_ ?_
      rotate_left
      · go_simp
        rfl
      refine hK.out _ _ ?_
      clear hK K
      refine done_ (done_of HT_.out βPb) ?_
      try go_wp2
      go_roundg (D.length - (kk + 1))
      case measure => have := HN.out; omega
      case rel =>
       have hg := HPP.out.2
       refine ⟨kk + 1, S'.set x.f0.toNat tv, (by rw [ek]), ⟨(by omega), Nat.le_refl _, (by rw [List.length_set]; exact HN.out.2.2.1), ?_⟩, ⟨blk_grown HBLK2.out hg (by have := HNE2.out; simpa [Value.ownBlock] using this)⟩, ⟨HPP.out.1⟩, ⟨Kd.R_over HD2.out HS2.out (by decide) hg⟩, ⟨HB2.out.setCell HGS.out _⟩, ⟨(by have e : ((kk + 1 : Nat) : Int) = (kk : Int) + 1 := (by omega); rw [e]; exact HX.out)⟩⟩
       have h1 := hg.size
       have h2 := HN.out
       have h3 := HZ2.out
       have h4 := HZD.out
       exact Nat.le_trans (by omega : w.heap.size ≤ w2.heap.size) h1
    · have hfb : decide ((kk : Int) < (l2.length : Int)) = false := decide_eq_false (by omega)
      have hfc : decide (kk < l2.length) = false := decide_eq_false hfl
      rw [if_neg (by omega)] at htv
      have HTV := zA_ htv
      clear htv hfl
      go_wp2
      refine start_ (n := 20) (S := fun w' => w'.cell? ⟨g, 0, none⟩ = some (.slice (some ⟨gs, 0, none⟩) S.length c0) ∧ w'.cell? ⟨wr.heap.size, 0, none⟩ = some (.int .i64 x.f0) ∧ w'.cell? ⟨wr.heap.size, 1, none⟩ = some (.string x.f1) ∧ w'.cell? ⟨gs, x.f0.toNat, none⟩ = some (.string (rdOf ByteArray.empty S' x.f0))) (ds := [19]) (mr_ [0, 20]) βPb rfl rfl ⟨cy_ HBLKD.out 0, cy_ HND.out 0, cy_ HND.out 1, I0.out⟩ (fun hHeld => ?_)
      refine with_tabW impl_Flash_crash.tab6 impl_Flash_crash.bits6 (fun HT_ HW_ => ?_)
      generalize (wr.alloc (.cells #[.int .i64 x.f0, .string x.f1] 83)).drew = wd at HSD HDD HBLKD HND HBD HZD I0 hHeld ⊢
      refine pure_ (i := 0) (N := some 25) (v := ?_) (a' := ?_) (mr_ [1, 19]) rfl rfl (any_of HT_.out βPb) (fun _ _ _ h => h) (Or.inl ⟨(by rfl), ?_⟩) ?_ ?_
      rotate_left; exact pv_; rotate_left; exact pp_
      refine pure_ (i := 1) (N := some 26) (v := ?_) (a' := ?_) (mr_ [2, 18]) rfl rfl (any_of HT_.out βPb) (fun _ _ _ h => h) (Or.inl ⟨(by rfl), ?_⟩) ?_ ?_
      rotate_left; exact pv_; rotate_left; exact pp_
      refine pure_ (i := 2) (N := some 27) (v := ?_) (a' := ?_) (mr_ [3, 17]) rfl rfl (any_of HT_.out βPb) (fun _ _ _ h => h) (Or.inl ⟨(by rfl), ?_⟩) ?_ ?_
      rotate_left; exact pv_; rotate_left; exact pp_
      refine take_ (i := 3) (N := some 28) (v := ?_) (a' := ?_) (mr_ [4, 16]) rfl rfl (take_ofW HT_.out HW_.out βPb) (fun _ _ _ h => h) (Or.inl ⟨(by rfl), ?_⟩) hHeld ?_ ?_
      rotate_left
      · rintro w' ⟨s0, s1, s2, s3⟩
        go_simp
        with_reducible rfl
      rotate_left
      exact pp_
      refine pure_ (i := 4) (N := some 29) (v := ?_) (a' := ?_) (mr_ [5, 15]) rfl rfl (any_of HT_.out βPb) (fun _ _ _ h => h) (Or.inl ⟨(by rfl), ?_⟩) ?_ ?_
      rotate_left; exact pv_; rotate_left; exact pp_
      refine take_ (i := 5) (N := some 30) (v := ?_) (a' := ?_) (mr_ [6, 14]) rfl rfl (take_ofW HT_.out HW_.out βPb) (fun _ _ _ h => h) (Or.inl ⟨(by rfl), ?_⟩) hHeld ?_ ?_
      rotate_left
      · rintro w' ⟨s0, s1, s2, s3⟩
        go_simp
        with_reducible rfl
      rotate_left
      exact pp_
      refine pure_ (i := 6) (N := some 31) (v := ?_) (a' := ?_) (mr_ [7, 13]) rfl rfl (any_of HT_.out βPb) (fun _ _ _ h => h) (Or.inl ⟨(by rfl), ?_⟩) ?_ ?_
      rotate_left; exact pv_; rotate_left; exact pp_
      refine pure_ (i := 7) (N := some 32) (v := ?_) (a' := ?_) (mr_ [8, 12]) rfl rfl (any_of HT_.out βPb) (fun _ _ _ h => h) (Or.inl ⟨(by rfl), ?_⟩) ?_ ?_
      rotate_left; exact pv_; rotate_left; exact pp_
      refine pure_ (i := 8) (N := some 33) (v := ?_) (a' := ?_) (mr_ [9, 11]) rfl rfl (any_of HT_.out βPb) (fun _ _ _ h => h) (Or.inl ⟨(by rfl), ?_⟩) ?_ ?_
      rotate_left; exact pv_; rotate_left; exact pp_
      refine take_ (i := 9) (N := some 34) (v := ?_) (a' := ?_) (mr_ [10, 10]) rfl rfl (take_ofW HT_.out HW_.out βPb) (fun _ _ _ h => h) (Or.inl ⟨(by rfl), ?_⟩) hHeld ?_ ?_
      rotate_left
      · rintro w' ⟨s0, s1, s2, s3⟩
        go_simp
        with_reducible rfl
      rotate_left
      exact pp_
      refine pure_ (i := 10) (N := some 35) (v := ?_) (a' := ?_) (mr_ [11, 9]) rfl rfl (any_of HT_.out βPb) (fun _ _ _ h => h) (Or.inl ⟨(by rfl), ?_⟩) ?_ ?_
      rotate_left; exact pv_; rotate_left; exact pp_
      refine take_ (i := 11) (N := some 36) (v := ?_) (a' := ?_) (mr_ [12, 8]) rfl rfl (take_ofW HT_.out HW_.out βPb) (fun _ _ _ h => h) (Or.inl ⟨(by rfl), ?_⟩) hHeld ?_ ?_
      rotate_left
      · rintro w' ⟨s0, s1, s2, s3⟩
        go_simp
        with_reducible rfl
      rotate_left
      exact pp_
      refine pure_ (i := 12) (N := some 37) (v := ?_) (a' := ?_) (mr_ [13, 7]) rfl rfl (any_of HT_.out βPb) (fun _ _ _ h => h) (Or.inl ⟨(by rfl), ?_⟩) ?_ ?_
      rotate_left; exact pv_; rotate_left; exact pp_
      refine take_ (i := 13) (N := some 38) (v := ?_) (a' := ?_) (mr_ [14, 6]) rfl rfl (take_ofW HT_.out HW_.out βPb) (fun _ _ _ h => h) (Or.inl ⟨(by rfl), ?_⟩) hHeld ?_ ?_
      rotate_left
      · rintro w' ⟨s0, s1, s2, s3⟩
        go_simp
        with_reducible rfl
      rotate_left
      exact pp_
      refine pure_ (i := 14) (N := some 39) (v := ?_) (a' := ?_) (mr_ [15, 5]) rfl rfl (any_of HT_.out βPb) (fun _ _ _ h => h) (Or.inl ⟨(by rfl), ?_⟩) ?_ ?_
      rotate_left; exact pv_; rotate_left; exact pp_
      refine take_ (i := 15) (N := some 40) (v := ?_) (a' := ?_) (mr_ [16, 4]) rfl rfl (take_ofW HT_.out HW_.out βPb) (fun _ _ _ h => h) (Or.inl ⟨(by rfl), ?_⟩) hHeld ?_ ?_
      rotate_left
      · rintro w' ⟨s0, s1, s2, s3⟩
        go_simp
        with_reducible rfl
      rotate_left
      exact pp_
      refine pure_ (i := 16) (N := some 41) (v := ?_) (a' := ?_) (mr_ [17, 3]) rfl rfl (any_of HT_.out βPb) (fun _ _ _ h => h) (Or.inl ⟨(by rfl), ?_⟩) ?_ ?_
      rotate_left; exact pv_; rotate_left; exact pp_
      refine one_ (i := 17) (N := some 42) (mr_ [18, 2]) rfl rfl (one_of HT_.out βPb) (by decide) (fun K hK => ?_)
      refine goes_ Try.func65 βPb rfl #[.string (rdOf ByteArray.empty S' x.f0), .string x.f1, .int .i64 0] (by rfl) rfl rfl (by (try simp only [List.map_toArray, List.map_cons, List.map_nil]); first | done | rfl) ?_
      refine (impl_torn.calls _ x.f1 _ tv _ HTV.out).mono ?_
      rintro e w2 ⟨rfl, hb2⟩
      refine ⟨_, rfl, ?_⟩
      have hS2 := Kd.R_below HSD.out hb2
      have HD2 := zA_ (Kd.R_below HDD.out hb2)
      have HB2 := zA_ (below_then HBD.out (show base ≤ wd.heap.size by have h1 := HN.out; have h2 := HBASE.out; have h3 := HZD.out; omega) hb2)
      have HBLK2 := zA_ (blk_below HBLKD.out hb2)
      have HN2 := zA_ (blk_below HND.out hb2)
      have HZ2 := zA_ hb2.size
      obtain ⟨ce2, hcl2, hM2, hcc2, hfr2⟩ := Kd.R_elem hS2 ByteArray.empty x.f0 hax.1 (by omega)
      have HP1 := Kd.R_seg hS2 x.f0 hax.1 (by omega) (seg := [.string tv]) (j := 0) (okp := fun _ => False) hcl2 hcc2 (Nat.le_refl 1) (x' := tv) (by obtain rfl := (show ce2 = [_] from hM2); exact rfl) (fun _ hk => hk.elim)
      simp only [show Kd.string.sz = 1 from rfl, Nat.mul_one, Nat.add_zero] at hcc2 hfr2 HP1
      have HPP := zA_ HP1
      obtain rfl := (show ce2 = [_] from hM2)
      have j0 : w2.cell? ⟨gs, x.f0.toNat, none⟩ = some (.string (rdOf ByteArray.empty S' x.f0)) := hcc2 0 _ rfl
      have k0 : w2.frozen? ⟨gs, x.f0.toNat, none⟩ = false := hfr2 0
      have HNE2 := zA_ (Kd.R_ne hS2 HBLK2.out (by decide))
      have HS2 := zA_ hS2
      clear hS2 hcl2 hM2 hcc2 hfr2 HP1 hb2
      refine hK.out _ _ ⟨cy_ HBLK2.out 0, cy_ HN2.out 0, cy_ HN2.out 1, j0⟩ (fun hHeld => ?_)
      clear hK K
      refine norm_ (a' := ?_) ?_ ?_
      rotate_left
      · show Act.put _ (some 42) _ = _
        simp only [Act.put, List.setIfInBounds_toArray, List.set_cons_zero, List.set_cons_succ, i64_w, i32_w]
        rfl
      refine pure_ (i := 18) (N := some 43) (v := ?_) (a' := ?_) (mr_ [19, 1]) rfl rfl (any_of HT_.out βPb) (fun _ _ _ h => h) (Or.inl ⟨(by rfl), ?_⟩) ?_ ?_
      rotate_left; exact pv_; rotate_left; exact pp_
      refine last_ (i := 19) (N := none) (mr_ [20]) rfl rfl (one_of HT_.out βPb) (by decide) (fun K hK => ?_)
      refine skip_ (w1 := ?_) (by rfl) rfl ?_ ?_
      rotate_left
      · go_simp
        rfl
      refine hK.out _ _ ?_
      clear hK K
      refine done_ (done_of HT_.out βPb) ?_
      try go_wp2
      go_roundg (D.length - (kk + 1))
      case measure => have := HN.out; omega
      case rel =>
       have hg := HPP.out.2
       refine ⟨kk + 1, S'.set x.f0.toNat tv, (by rw [ek]), ⟨(by omega), Nat.le_refl _, (by rw [List.length_set]; exact HN.out.2.2.1), ?_⟩, ⟨blk_grown HBLK2.out hg (by have := HNE2.out; simpa [Value.ownBlock] using this)⟩, ⟨HPP.out.1⟩, ⟨Kd.R_over HD2.out HS2.out (by decide) hg⟩, ⟨HB2.out.setCell HGS.out _⟩, ⟨(by have e : ((kk + 1 : Nat) : Int) = (kk : Int) + 1 := (by omega); rw [e]; exact HX.out)⟩⟩
       have h1 := hg.size
       have h2 := HN.out
       have h3 := HZ2.out
       have h4 := HZD.out
       exact Nat.le_trans (by omega : w.heap.size ≤ w2.heap.size) h1
  · obtain rfl : kk = D.length := by have := HN.out; omega
    have hltz : decide ((D.length : Int) < (D.length : Int)) = false := decide_eq_false (by omega)
    have s1 := blk_cell HBLK.out 1
    have s2 := blk_frozen HBLK.out 1
    have HX2 := HX.out
    rw [List.drop_length, impl_Flash_crashed] at HX2
    obtain rfl := Option.some.inj HX2
    go_wp2
    (first | go_end0 | ((try simp only [Exit.inBlock, Exit.then]); refine bodyPost_ret (results_none rfl _ _ _) rfl ?_))
    refine ⟨rfl, ⟨_, _, (by have := blk_set HBLK.out 1 (.slice none 0 0); simpa using this), HGE.out, Kd.R_set HS.out HBLK.out (by decide) 1 _, Kd.R_nil _ _ _ _ _⟩, HB.out.setCell HGE.out _, ?_⟩
    have h2 := HN.out
    simp
    omega
def impl_FlashCrash.okD (S : List ByteArray) (D : List S83) : Bool := decide (D.length ≤ 1000000) && D.all (fun x => decide (0 ≤ x.f0 ∧ x.f0 < (S.length : Int)))
def impl_FlashCrash.f (l0_0 : List ByteArray) (l0_1 : List S83) (l1 : List Int) : Option (List ByteArray × List S83) :=
 if (l1.length : Int) > 400 then some (([] : List ByteArray), ([] : List S83)) else
 (impl_cloneFlash.f l0_0 l0_1).bind fun c => (impl_isFlash.f l0_0 l0_1).bind fun t => (if t = true then (if impl_FlashCrash.okD c.1 c.2 = true then ((impl_Flash_crashed l1 c.2 0 c.1).bind fun S => some (S, ([] : List S83))) else none) else some (c.1, c.2))
theorem FB.out2 {α : Type} {d : Kd α} {e : Nat} {W : World} {base g : Nat} {cs : Array Value} {v : Value} {xs : List α} (h : d.R e W base (fun _ => True) v xs) (hb : W.heap[g]? = some (.cells cs 26 (0, 0))) (ht : ∀ q, q ∈ e :: d.E → q ≠ 26) (a b : Value) :
 d.R e ((W.setCell ⟨g, 0, none⟩ a).setCell ⟨g, 1, none⟩ b) base (fun _ => True) v xs :=
 Kd.R_mono (Kd.R_far (p := ⟨g, 1, none⟩) (Kd.R_far (p := ⟨g, 0, none⟩) (Kd.R_types h hb ht) (fun _ hk => hk.2) a) (fun _ hk => hk.2) b) (fun _ _ => trivial)
theorem impl_FlashCrash.calls (A0_0 : Option Addr) (c0_0 : Nat) (l0_0 : List ByteArray) (A0_1 : Option Addr) (c0_1 : Nat) (l0_1 : List S83) (A1 : Option Addr) (c1 : Nat) (l1 : List Int) (r1 : List ByteArray) (r2 : List S83) (w : World) (hr0_0 : Kd.C Kd.string w A0_0 l0_0.length l0_0) (hc0_0 : l0_0.length ≤ c0_0) (hr0_1 : Kd.C k83 w A0_1 l0_1.length l0_1) (hc0_1 : l0_1.length ≤ c0_1) (hr1 : Kd.C (Kd.int .i64) w A1 l1.length l1) (hc1 : l1.length ≤ c1) (h : impl_FlashCrash.f l0_0 l0_1 l1 = some (r1, r2)) :
 Calls Try.prog 8 #[.agg #[.slice A0_0 l0_0.length c0_0, .slice A0_1 l0_1.length c0_1], .slice A1 l1.length c1] w fun e w' => ∃ v0_ v1_ : Value, e = .returned (.agg #[v0_, v1_]) ∧ Kd.R Kd.string 9 w' w.heap.size (fun _ => True) v0_ r1 ∧ Kd.R k83 83 w' w.heap.size (fun _ => True) v1_ r2 ∧ Below w.heap.size w w' := by
 unfold impl_FlashCrash.f at h
 have hu30 := Try.underlying26
 have HR0 := zA_ hr0_0
 have HC0 := zA_ hc0_0
 have HR1 := zA_ hr0_1
 have HC1 := zA_ hc0_1
 clear hr0_0 hc0_0 hr0_1 hc0_1
 have HR2 := zA_ hr1
 have HC2 := zA_ hc1
 clear hr1 hc1
 have HX0 := zA_ (blk_alloc (blk_new w (.cells #[.slice A0_0 l0_0.length c0_0, .slice A0_1 l0_1.length c0_1] 26)) (.cells #[.slice none 0 0, .slice none 0 0] 26))
 have hx1_ := blk_new (w.alloc (.cells #[.slice A0_0 l0_0.length c0_0, .slice A0_1 l0_1.length c0_1] 26)) (.cells #[.slice none 0 0, .slice none 0 0] 26)
 rw [show (w.alloc (.cells #[.slice A0_0 l0_0.length c0_0, .slice A0_1 l0_1.length c0_1] 26)).heap.size = w.heap.size + 1 from by simp] at hx1_
 have HX1 := zA_ hx1_
 clear hx1_
 have HW0 := zA_ (show Below w.heap.size w ((w.alloc (.cells #[.slice A0_0 l0_0.length c0_0, .slice A0_1 l0_1.length c0_1] 26)).alloc (.cells #[.slice none 0 0, .slice none 0 0] 26)) from below_alloc (below_alloc (Below.refl _ _) _) _)
 by_cases h8 : (l1.length : Int) > 400
 · rw [if_pos h8] at h
   simp only [Option.some.injEq, Prod.mk.injEq] at h
   obtain ⟨rfl, rfl⟩ := h
   have g0 : decide ((l1.length : Int) > 400) = true := decide_eq_true h8
   have g1 : decide (400 < l1.length) = true := decide_eq_true (by omega)
   clear h8
   go_enter Try.func8, Try.ntmps8
   go_wp2
   refine bodyPost_ret (results_cell_row rfl _ _ (w.heap.size + 1) 26 #[.slice none 0 0, .slice none 0 0] (0, 0) _ rfl (by exact HX1.out) Try.underlying26 rfl βPb) rfl ?_
   exact ⟨_, _, rfl, Kd.R_nil _ _ _ _ _, Kd.R_nil _ _ _ _ _, HW0.out⟩
 · rw [if_neg h8] at h
   have g0 : decide ((l1.length : Int) > 400) = false := decide_eq_false h8
   have g1 : decide (400 < l1.length) = false := decide_eq_false (by omega)
   obtain ⟨c, hc, h⟩ := Option.bind_eq_some_iff.1 h
   obtain ⟨t, ht, h⟩ := Option.bind_eq_some_iff.1 h
   obtain ⟨cS, cD⟩ := c
   have HF := zA_ ht
   have HCL := zA_ hc
   have HL8 := zA_ (show l1.length ≤ 400 by omega)
   clear ht hc h8
   have HRW := zA_ (Kd.C_below HR2.out HW0.out)
   have HSW := zA_ (show ((w.alloc (.cells #[.slice A0_0 l0_0.length c0_0, .slice A0_1 l0_1.length c0_1] 26)).alloc (.cells #[.slice none 0 0, .slice none 0 0] 26)).heap.size = w.heap.size + 2 from by simp)
   go_enter Try.func8, Try.ntmps8
   go_wp2_with (fail)
   go_at_call 50
   generalize hw0_ : ((w.alloc (.cells #[.slice A0_0 l0_0.length c0_0, .slice A0_1 l0_1.length c0_1] 26)).alloc (.cells #[.slice none 0 0, .slice none 0 0] 26)) = W0 at HX0 HX1 HW0 HRW HSW ⊢
   clear hw0_
   refine (impl_cloneFlash.calls A0_0 c0_0 l0_0 A0_1 c0_1 l0_1 cS cD _ (Kd.C_below HR0.out HW0.out) HC0.out (Kd.C_below HR1.out HW0.out) HC1.out HCL.out).mono ?_
   rintro e w2 ⟨v0, v1, rfl, hS, hD, hb2⟩
   obtain ⟨As, cs, rfl⟩ := Kd.R_slice hS
   obtain ⟨Ad, cd, rfl⟩ := Kd.R_slice hD
   have HFB := zA_ (show FB (w2.alloc (.cells #[.slice As cS.length cs, .slice Ad cD.length cd] 26)) W0.heap.size w2.heap.size cS cD from ⟨_, _, blk_new _ _, hb2.size, Kd.R_alloc hS _, Kd.R_alloc hD _⟩)
   have HB2 := zA_ (show Below W0.heap.size W0 (w2.alloc (.cells #[.slice As cS.length cs, .slice Ad cD.length cd] 26)) from below_alloc hb2 _)
   have HX02 := zA_ (blk_below HX0.out HB2.out)
   have HX12 := zA_ (blk_below HX1.out HB2.out)
   have HB02 := zA_ (below_step HW0.out HB2.out)
   have b0 : ∀ o, (w2.alloc o).cell? ⟨w.heap.size, 0, none⟩ = some (Value.slice A0_0 l0_0.length c0_0) := fun o => (blk_cell (blk_alloc (blk_below HX0.out hb2) o) 0).trans rfl
   have b1 : ∀ o, (w2.alloc o).cell? ⟨w.heap.size, 1, none⟩ = some (Value.slice A0_1 l0_1.length c0_1) := fun o => (blk_cell (blk_alloc (blk_below HX0.out hb2) o) 1).trans rfl
   clear hS hD hb2
   go_wp2_with (fail)
   go_at_call 48
   refine (impl_isFlash.calls A0_0 c0_0 l0_0 A0_1 c0_1 l0_1 t _ (Kd.C_below HR0.out HB02.out) HC0.out (Kd.C_below HR1.out HB02.out) HC1.out HF.out).mono ?_
   rintro e w1 ⟨rfl, hb1⟩
   have HF1 := zA_ (FB.below HFB.out hb1)
   have hx1 := blk_below HX12.out hb1
   have HX11 := zA_ hx1
   have HBW := zA_ (below_then HB2.out HB2.out.size hb1)
   have HB1 := zA_ (below_step HB02.out hb1)
   clear hb1 b0 b1 HFB HB2 HX02 HX12 HB02 HX0 HX1
   cases t with
   | true =>
    simp only [if_true] at h
    by_cases hok : impl_FlashCrash.okD cS cD = true
    · simp only [hok, if_true] at h
      obtain ⟨S2, hS2, h⟩ := Option.bind_eq_some_iff.1 h
      simp only [Option.some.injEq, Prod.mk.injEq] at h
      obtain ⟨rfl, rfl⟩ := h
      unfold impl_FlashCrash.okD at hok
      simp only [Bool.and_eq_true, decide_eq_true_eq, List.all_eq_true] at hok
      have HOK := zA_ hok
      have HCR := zA_ hS2
      clear hok hS2 hx1
      go_wp2_with (fail)
      go_at_call 53
      refine (impl_Flash_crash.calls W0 W0.heap.size _ cS cD A1 c1 l1 S2 _ (by exact HF1.out) (by exact HBW.out) HBW.out.size HOK.out.1 HOK.out.2 (Nat.le_refl _) HRW.out HC2.out (by have := HL8.out; omega) HCR.out).mono ?_
      rintro e w3 ⟨rfl, hF3, hb3, hz3⟩
      obtain ⟨u0, u1, hk3, hg3, hS3, hD3⟩ := hF3
      obtain ⟨Au, cu, rfl⟩ := Kd.R_slice hS3
      obtain ⟨Av, cv, rfl⟩ := Kd.R_slice hD3
      have e0 := (blk_cell hk3 0).trans (rfl : _ = some (Value.slice Au _ cu))
      have e1 := (blk_cell hk3 1).trans (rfl : _ = some (Value.slice Av _ cv))
      have hx3 := (hb3.block (w.heap.size + 1) (by have := HSW.out; omega)).trans ((HBW.out.block (w.heap.size + 1) (by have := HSW.out; omega)).symm.trans HX11.out)
      have HX3 := zA_ hx3
      have HS3 := zA_ hS3
      have HD3 := zA_ hD3
      have HB3 := zA_ (below_step HW0.out hb3)
      have oc0 := blk_cell hx3 0
      have of0 := blk_frozen hx3 0
      have oc1 := blk_cell hx3 1
      have of1 := blk_frozen hx3 1
      clear hk3 hg3 hS3 hD3 hb3 hx3 hz3
      go_wp2
      refine bodyPost_ret (results_cell_row rfl _ _ (w.heap.size + 1) 26 #[.slice Au S2.length cu, .slice Av ([] : List S83).length cv] (0, 0) _ rfl (by refine blk_put (cs := #[.slice Au S2.length cu, .slice none 0 0]) ?_ 1 _ rfl; refine blk_put (cs := #[.slice none 0 0, .slice none 0 0]) ?_ 0 _ rfl; (repeat (first | exact HX3.out | refine blk_drewN ?_ _ | refine blk_drew ?_))) Try.underlying26 rfl βPb) rfl ?_
      exact ⟨_, _, rfl, Kd.R_lower (FB.out2 HS3.out HX3.out (by decide) _ _) HW0.out.size, Kd.R_lower (FB.out2 HD3.out HX3.out (by decide) _ _) HW0.out.size, ((show Below w.heap.size w _ from by first | exact HB3.out | exact pw_below_drewN HB3.out _).setCell (Nat.le_succ _) _).setCell (Nat.le_succ _) _⟩
    · simp only [hok] at h; cases h
   | false =>
    simp only [Bool.false_eq_true, if_false, Option.some.injEq, Prod.mk.injEq] at h
    obtain ⟨rfl, rfl⟩ := h
    obtain ⟨u0, u1, hk3, hg3, hS3, hD3⟩ := HF1.out
    obtain ⟨Au, cu, rfl⟩ := Kd.R_slice hS3
    obtain ⟨Av, cv, rfl⟩ := Kd.R_slice hD3
    have e0 := (blk_cell hk3 0).trans (rfl : _ = some (Value.slice Au _ cu))
    have e1 := (blk_cell hk3 1).trans (rfl : _ = some (Value.slice Av _ cv))
    have HS3 := zA_ hS3
    have HD3 := zA_ hD3
    have oc0 := blk_cell hx1 0
    have of0 := blk_frozen hx1 0
    have oc1 := blk_cell hx1 1
    have of1 := blk_frozen hx1 1
    clear hk3 hg3 hS3 hD3 hx1
    go_wp2
    refine bodyPost_ret (results_cell_row rfl _ _ (w.heap.size + 1) 26 #[.slice Au cS.length cu, .slice Av cD.length cv] (0, 0) _ rfl (by refine blk_put (cs := #[.slice Au cS.length cu, .slice none 0 0]) ?_ 1 _ rfl; refine blk_put (cs := #[.slice none 0 0, .slice none 0 0]) ?_ 0 _ rfl; (repeat (first | exact HX11.out | refine blk_drewN ?_ _ | refine blk_drew ?_))) Try.underlying26 rfl βPb) rfl ?_
    exact ⟨_, _, rfl, Kd.R_lower (FB.out2 HS3.out HX11.out (by decide) _ _) HW0.out.size, Kd.R_lower (FB.out2 HD3.out HX11.out (by decide) _ _) HW0.out.size, ((show Below w.heap.size w _ from by first | exact HB1.out | exact pw_below_drewN HB1.out _).setCell (Nat.le_succ _) _).setCell (Nat.le_succ _) _⟩
def impl_FlashSync.okD (S : List ByteArray) (D : List S83) : Bool := decide (D.length ≤ 1000000) && D.all (fun x => decide (0 ≤ x.f0 ∧ x.f0 < (S.length : Int)))
def impl_FlashSync.f (l0_0 : List ByteArray) (l0_1 : List S83) : Option (List ByteArray × List S83 × ByteArray × Int) :=
 (impl_isFlash.f l0_0 l0_1).bind fun t => (if t = true then ((impl_cloneFlash.f l0_0 l0_1).bind fun c => (if impl_FlashSync.okD c.1 c.2 = true then some (impl_Flash_synced c.1 c.2, ([] : List S83), (⟨#[]⟩ : ByteArray), (0 : Int)) else none)) else some (([] : List ByteArray), ([] : List S83), (⟨#[]⟩ : ByteArray), (1 : Int)))
theorem impl_FlashSync.calls (A0_0 : Option Addr) (c0_0 : Nat) (l0_0 : List ByteArray) (A0_1 : Option Addr) (c0_1 : Nat) (l0_1 : List S83) (r1 : List ByteArray) (r2 : List S83) (r3 : ByteArray) (r4 : Int) (w : World) (hr0_0 : Kd.C Kd.string w A0_0 l0_0.length l0_0) (hc0_0 : l0_0.length ≤ c0_0) (hr0_1 : Kd.C k83 w A0_1 l0_1.length l0_1) (hc0_1 : l0_1.length ≤ c0_1) (h : impl_FlashSync.f l0_0 l0_1 = some (r1, r2, r3, r4)) :
 Calls Try.prog 9 #[.agg #[.slice A0_0 l0_0.length c0_0, .slice A0_1 l0_1.length c0_1]] w fun e w' => ∃ v0_ v1_ : Value, e = .returned (.agg #[v0_, v1_, .string r3, .int .i64 r4]) ∧ Kd.R Kd.string 9 w' w.heap.size (fun _ => True) v0_ r1 ∧ Kd.R k83 83 w' w.heap.size (fun _ => True) v1_ r2 ∧ Below w.heap.size w w' := by
 unfold impl_FlashSync.f at h
 have hu30 := Try.underlying26
 have hu35 := Try.underlying30
 obtain ⟨t, ht, h⟩ := Option.bind_eq_some_iff.1 h
 have HF := zA_ ht
 clear ht
 have HR0 := zA_ hr0_0
 have HC0 := zA_ hc0_0
 have HR1 := zA_ hr0_1
 have HC1 := zA_ hc0_1
 clear hr0_0 hc0_0 hr0_1 hc0_1
 have HX0 := zA_ (blk_alloc (blk_new w (.cells #[.slice A0_0 l0_0.length c0_0, .slice A0_1 l0_1.length c0_1] 26)) (.cells #[.slice none 0 0, .slice none 0 0, .string ⟨#[]⟩, .int .i64 0] 30))
 have hx1_ := blk_new (w.alloc (.cells #[.slice A0_0 l0_0.length c0_0, .slice A0_1 l0_1.length c0_1] 26)) (.cells #[.slice none 0 0, .slice none 0 0, .string ⟨#[]⟩, .int .i64 0] 30)
 rw [show (w.alloc (.cells #[.slice A0_0 l0_0.length c0_0, .slice A0_1 l0_1.length c0_1] 26)).heap.size = w.heap.size + 1 from by simp] at hx1_
 have HX1 := zA_ hx1_
 clear hx1_
 have HW0 := zA_ (show Below w.heap.size w ((w.alloc (.cells #[.slice A0_0 l0_0.length c0_0, .slice A0_1 l0_1.length c0_1] 26)).alloc (.cells #[.slice none 0 0, .slice none 0 0, .string ⟨#[]⟩, .int .i64 0] 30)) from below_alloc (below_alloc (Below.refl _ _) _) _)
 cases t with
 | true =>
  simp only [if_true] at h
  obtain ⟨c, hc, h⟩ := Option.bind_eq_some_iff.1 h
  obtain ⟨cS, cD⟩ := c
  by_cases hok : impl_FlashSync.okD cS cD = true
  · simp only [hok, if_true, Option.some.injEq, Prod.mk.injEq] at h
    obtain ⟨rfl, rfl, rfl, rfl⟩ := h
    unfold impl_FlashSync.okD at hok
    simp only [Bool.and_eq_true, decide_eq_true_eq, List.all_eq_true] at hok
    have HOK := zA_ hok
    have HCL := zA_ hc
    clear hok hc
    go_enter Try.func9, Try.ntmps9
    go_wp2_with (fail)
    go_at_call 48
    refine (impl_isFlash.calls A0_0 c0_0 l0_0 A0_1 c0_1 l0_1 true _ (Kd.C_below HR0.out HW0.out) HC0.out (Kd.C_below HR1.out HW0.out) HC1.out HF.out).mono ?_
    rintro e w1 ⟨rfl, hb1⟩
    have HB1 := zA_ (below_step HW0.out hb1)
    have hx0 := blk_below (by exact HX0.out) hb1
    have hx1 := blk_below (by exact HX1.out) hb1
    have HX01 := zA_ hx0
    have HX11 := zA_ hx1
    clear hb1
    have b0 := (blk_cell HX01.out 0).trans (rfl : _ = some (Value.slice A0_0 l0_0.length c0_0))
    have b1 := (blk_cell HX01.out 1).trans (rfl : _ = some (Value.slice A0_1 l0_1.length c0_1))
    clear hx0 hx1
    go_wp2_with (fail)
    go_at_call 50
    refine (impl_cloneFlash.calls A0_0 c0_0 l0_0 A0_1 c0_1 l0_1 cS cD _ (by repeat (first | exact (Kd.C_below HR0.out HB1.out) | (with_reducible refine Kd.C_drewN ?_ _))) HC0.out (by repeat (first | exact (Kd.C_below HR1.out HB1.out) | (with_reducible refine Kd.C_drewN ?_ _))) HC1.out HCL.out).mono ?_
    rintro e w2 ⟨v0, v1, rfl, hS, hD, hb2⟩
    obtain ⟨As, cs, rfl⟩ := Kd.R_slice hS
    obtain ⟨Ad, cd, rfl⟩ := Kd.R_slice hD
    have HFB := zA_ (show FB (w2.alloc (.cells #[.slice As cS.length cs, .slice Ad cD.length cd] 26)) w1.heap.size w2.heap.size cS cD from ⟨_, _, blk_new _ _, hb2.size, Kd.R_alloc hS _, Kd.R_alloc hD _⟩)
    have HB2 := zA_ (show Below w1.heap.size w1 (w2.alloc (.cells #[.slice As cS.length cs, .slice Ad cD.length cd] 26)) from below_alloc hb2 _)
    clear hS hD hb2
    go_wp2_with (fail)
    go_at_call 54
    refine (impl_Flash_sync.calls w1 w1.heap.size _ cS cD _ (by exact HFB.out) (by exact HB2.out) HB2.out.size HOK.out.1 HOK.out.2).mono ?_
    rintro e w3 ⟨rfl, hF3, hb3, _⟩
    obtain ⟨u0, u1, hk3, hg3, hS3, hD3⟩ := hF3
    obtain ⟨Au, cu, rfl⟩ := Kd.R_slice hS3
    obtain ⟨Av, cv, rfl⟩ := Kd.R_slice hD3
    have e0 := (blk_cell hk3 0).trans (rfl : _ = some (Value.slice Au _ cu))
    have e1 := (blk_cell hk3 1).trans (rfl : _ = some (Value.slice Av _ cv))
    have hx3 := (hb3.block (w.heap.size + 1) (blk_lt HX11.out)).trans HX11.out
    have HX3 := zA_ hx3
    have HS3 := zA_ hS3
    have HD3 := zA_ hD3
    have HB3 := zA_ (below_step HB1.out hb3)
    have oc0 := blk_cell hx3 0
    have of0 := blk_frozen hx3 0
    have oc1 := blk_cell hx3 1
    have of1 := blk_frozen hx3 1
    have oc2 := blk_cell hx3 2
    have of2 := blk_frozen hx3 2
    have oc3 := blk_cell hx3 3
    have of3 := blk_frozen hx3 3
    clear hk3 hg3 hS3 hD3 hb3 hx3
    go_wp2
    refine bodyPost_ret (results_cell_row rfl _ _ (w.heap.size + 1) 30 #[.slice Au (impl_Flash_synced cS cD).length cu, .slice Av ([] : List S83).length cv, .string ⟨#[]⟩, .int .i64 0] (0, 0) _ rfl (by refine blk_put (cs := #[.slice Au (impl_Flash_synced cS cD).length cu, .slice Av ([] : List S83).length cv, .string ⟨#[]⟩, .int .i64 0]) ?_ 3 _ rfl; refine blk_put (cs := #[.slice Au (impl_Flash_synced cS cD).length cu, .slice Av ([] : List S83).length cv, .string ⟨#[]⟩, .int .i64 0]) ?_ 2 _ rfl; refine blk_put (cs := #[.slice Au (impl_Flash_synced cS cD).length cu, .slice none 0 0, .string ⟨#[]⟩, .int .i64 0]) ?_ 1 _ rfl; refine blk_put (cs := #[.slice none 0 0, .slice none 0 0, .string ⟨#[]⟩, .int .i64 0]) ?_ 0 _ rfl; (repeat (first | exact HX3.out | refine blk_drewN ?_ _ | refine blk_drew ?_))) Try.underlying30 rfl βPb) rfl ?_
    exact ⟨_, _, rfl, Kd.R_lower (FB.out4 HS3.out HX3.out (by decide) _ _ _ _) HB1.out.size, Kd.R_lower (FB.out4 HD3.out HX3.out (by decide) _ _ _ _) HB1.out.size, ((((show Below w.heap.size w _ from by first | exact HB3.out | exact pw_below_drewN HB3.out _).setCell (Nat.le_succ _) _).setCell (Nat.le_succ _) _).setCell (Nat.le_succ _) _).setCell (Nat.le_succ _) _⟩
  · simp only [hok] at h; cases h
 | false =>
  simp only [Bool.false_eq_true, if_false, Option.some.injEq, Prod.mk.injEq] at h
  obtain ⟨rfl, rfl, rfl, rfl⟩ := h
  go_enter Try.func9, Try.ntmps9
  go_wp2_with (fail)
  go_at_call 48
  refine (impl_isFlash.calls A0_0 c0_0 l0_0 A0_1 c0_1 l0_1 false _ (Kd.C_below HR0.out HW0.out) HC0.out (Kd.C_below HR1.out HW0.out) HC1.out HF.out).mono ?_
  rintro e w1 ⟨rfl, hb1⟩
  have HB1 := zA_ (below_step HW0.out hb1)
  have hx0 := blk_below (by exact HX0.out) hb1
  have hx1 := blk_below (by exact HX1.out) hb1
  have HX01 := zA_ hx0
  have HX11 := zA_ hx1
  clear hb1
  have oc0 := blk_cell hx1 0
  have of0 := blk_frozen hx1 0
  have oc1 := blk_cell hx1 1
  have of1 := blk_frozen hx1 1
  have oc2 := blk_cell hx1 2
  have of2 := blk_frozen hx1 2
  have oc3 := blk_cell hx1 3
  have of3 := blk_frozen hx1 3
  clear hx0 hx1
  go_wp2
  refine bodyPost_ret (results_cell_row rfl _ _ (w.heap.size + 1) 30 #[.slice none 0 0, .slice none 0 0, .string ⟨#[]⟩, .int .i64 1] (0, 0) _ rfl βr Try.underlying30 rfl βPb) rfl ?_
  exact ⟨_, _, rfl, Kd.R_nil _ _ _ _ _, Kd.R_nil _ _ _ _ _, ((((show Below w.heap.size w _ from by first | exact HB1.out | exact pw_below_drewN HB1.out _).setCell (Nat.le_succ _) _).setCell (Nat.le_succ _) _).setCell (Nat.le_succ _) _).setCell (Nat.le_succ _) _⟩
def spec_DrawFlashRead.f (k : Nat) (l0 : List Int) : Option (List ByteArray × (List (S83)) × Int) := (spec_l01Source.f k l0).bind fun bt422 => ((spec_l01Src_l03Flash.f k bt422.1 bt422.2.1 bt422.2.2.1 bt422.2.2.2).bind fun bt427 => ((spec_l01Src_one.f bt422.1 bt427.2.2.1 bt427.2.2.2.1 bt427.2.2.2.2 10).bind fun bt437 => (if bt437.1 = true then ((spec_l01Src_edge.f bt422.1 bt437.2.1 bt437.2.2.1 bt437.2.2.2).bind fun bt441 => (some (bt427.1, bt427.2.1, bt441.1))) else ((spec_l01Src_n.f bt422.1 bt437.2.1 bt437.2.2.1 bt437.2.2.2 8).bind fun bt445 => (some (bt427.1, bt427.2.1, bt445.1))))))
theorem spec_DrawFlashRead.calls (k : Nat) (A0 : Option Addr) (c0 : Nat) (l0 : List Int) (r1 : List ByteArray) (r2 : List (S83)) (r3 : Int) (w : World) (hr0 : Kd.C (Kd.int .u8) w A0 l0.length l0) (hc0 : l0.length ≤ c0) (h : spec_DrawFlashRead.f k l0 = some (r1, r2, r3)) :
 Calls Try.prog 10 #[.slice A0 l0.length c0] w fun e w' => ∃ v0_ v1_ : Value, e = .returned (.tuple #[.agg #[v0_, v1_], .int .i64 r3]) ∧ Kd.R Kd.string 9 w' w.heap.size (fun _ => True) v0_ r1 ∧ Kd.R k83 83 w' w.heap.size (fun _ => True) v1_ r2 ∧ Below w.heap.size w w' := by
 have hu26 := Try.underlying26
 have HR0 := zA_ hr0
 have HC0 := zA_ hc0
 clear hr0 hc0
 have HB := zA_ (Below.refl w.heap.size w)
 have H : ((spec_l01Source.f k l0).bind fun bt422 => ((spec_l01Src_l03Flash.f k bt422.1 bt422.2.1 bt422.2.2.1 bt422.2.2.2).bind fun bt427 => ((spec_l01Src_one.f bt422.1 bt427.2.2.1 bt427.2.2.2.1 bt427.2.2.2.2 10).bind fun bt437 => (if bt437.1 = true then ((spec_l01Src_edge.f bt422.1 bt437.2.1 bt437.2.2.1 bt437.2.2.2).bind fun bt441 => (some (bt427.1, bt427.2.1, bt441.1))) else ((spec_l01Src_n.f bt422.1 bt437.2.1 bt437.2.2.1 bt437.2.2.2 8).bind fun bt445 => (some (bt427.1, bt427.2.1, bt445.1))))))) = some (r1, r2, r3) := h
 clear h
 replace H := Option.bind_eq_some_iff.mp H
 obtain ⟨⟨t422, t423, t424, t425⟩, A20, H⟩ := H
 (try dsimp -simprocs only at H)
 have A2 := zA_ A20
 clear A20
 replace H := Option.bind_eq_some_iff.mp H
 obtain ⟨⟨t427, t430, t433, t434, t435⟩, A30, H⟩ := H
 (try dsimp -simprocs only at H)
 have A3 := zA_ A30
 clear A30
 replace H := Option.bind_eq_some_iff.mp H
 obtain ⟨⟨t437, t438, t439, t440⟩, A40, H⟩ := H
 (try dsimp -simprocs only at H)
 have A4 := zA_ A40
 clear A40
 by_cases c5 : t437 = true
 · subst c5
   have H1 : ((spec_l01Src_edge.f t422 t438 t439 t440).bind fun bt441 => (some (t427, t430, bt441.1))) = some (r1, r2, r3) := by rw [if_pos rfl] at H; exact H
   clear H
   have H := H1
   clear H1
   replace H := Option.bind_eq_some_iff.mp H
   obtain ⟨⟨t441, t442, t443, t444⟩, A60, H⟩ := H
   (try dsimp -simprocs only at H)
   have A6 := zA_ A60
   clear A60
   simp only [Option.some.injEq, Prod.mk.injEq] at H
   obtain ⟨rfl, rfl, rfl⟩ := H
   go_enter Try.func10, Try.ntmps10
   try go_wp2_with (first | ((with_reducible refine gate_dst (N := 2) rfl ?_); refine box_event ?hg (N := 2) ?hd (cs := #[.slice none 0 0, .slice none 0 0]) (t := 26) ?hr ?_; (case hd => exact (by rfl)); (case hg => exact (by rfl)); (case hr => exact βMb); intro gb421 hg w7 hbox hb; have BK421 := zA_ (hbox); have GW421 := zA_ ((by rw [hg]; exact (below_size (zh_ HB.out)) : w.heap.size ≤ gb421)); have GE421 := zA_ ((by rw [hg]; exact (below_size (zh_ HB.out)) : w.heap.size ≤ gb421)); replace HB := zA_ (below_step (zh_ HB.out) hb); clear hb hbox hg) | ((with_reducible refine gate_callee (f := 43) rfl ?_); refine goesL_ (some 7) rfl rfl Try.func43 βPb rfl #[.slice A0 l0.length c0] rfl zs_ ?_; (with_reducible refine (spec_l01Source.calls k _ _ l0 t422 t423 t424 t425 w _ ?side1 ?side2 ?side3 A2.out).mono ?_); (case side1 => exact βub); (case side2 => exact HR0.out); (case side3 => exact HC0.out); rintro e w8 ⟨g426, rfl, hi, hb, hb2⟩; refine ⟨_, rfl, ?_⟩; replace HB := zA_ (hb); have HI426 := zA_ (hi); have NB426_421 := zA_ (IsS101.ne_blk hi (blk_below (g := gb421) (o := .cells #[.slice none 0 0, .slice none 0 0] 26 (0, 0)) (zb_ BK421.out) hb2) (by decide)); have NB421_426 := zA_ (Ne.symm (IsS101.ne_blk hi (blk_below (g := gb421) (o := .cells #[.slice none 0 0, .slice none 0 0] 26 (0, 0)) (zb_ BK421.out) hb2) (by decide))); replace BK421 := zA_ (blk_below (g := gb421) (o := .cells #[.slice none 0 0, .slice none 0 0] 26 (0, 0)) (zb_ BK421.out) hb2); (try clear hb); (try clear hb2); (try clear hk); (try clear hi)) | ((with_reducible refine gate_callee (f := 44) rfl ?_); refine goesL_ (some 9) rfl rfl Try.func44 βPb rfl #[.pointer (some ⟨g426, 0, none⟩)] rfl zs_ ?_; (with_reducible refine (spec_l01Src_l03Flash.calls k g426 t422 t423 t424 t425 t427 t430 t433 t434 t435 w _ ?side1 ?side2 A3.out).mono ?_); (case side1 => exact βpa); (case side2 => exact βLa); rintro e w9 ⟨v428, v431, rfl, ho0, ho1, hi, hb, hk⟩; refine ⟨_, rfl, ?_⟩; replace BK421 := zA_ (KeepBut.blk hk (g' := gb421) (o := .cells #[.slice none 0 0, .slice none 0 0] 26 (0, 0)) (zb_ BK421.out) NB421_426.out (by simp)); have HO429 := zA_ (Kd.R_lower ho0 (below_size βLa)); have HO432 := zA_ (Kd.R_lower ho1 (below_size βLa)); replace HB := zA_ (hb); replace HI426 := zA_ (hi); (try clear hb); (try clear hb2); (try clear hk); (try clear hi); (try clear ho0); (try clear ho1)) | ((with_reducible refine gate_dst (N := 5) rfl ?_); refine box_event ?hg (N := 5) ?hd (cs := #[.slice none 0 0, .slice none 0 0]) (t := 26) ?hr ?_; (case hd => exact (by rfl)); (case hg => exact (by rfl)); (case hr => exact βMb); intro gb436 hg w10 hbox hb; replace HO429 := zR_ HO429.out hb; replace HO432 := zR_ HO432.out hb; have BK436 := zA_ (hbox); have GW436 := zA_ ((by rw [hg]; exact (below_size βLa) : w.heap.size ≤ gb436)); have GE436 := zA_ ((by rw [hg]; exact (below_size βLa) : w.heap.size ≤ gb436)); replace HB := zA_ (below_step βLa hb); have NB421_436 := zA_ ((by rw [hg]; exact Nat.ne_of_lt (blk_lt (g := gb421) (o := .cells #[.slice none 0 0, .slice none 0 0] 26 (0, 0)) (zb_ BK421.out)) : gb421 ≠ gb436)); have NB436_421 := zA_ ((by rw [hg]; exact Nat.ne_of_gt (blk_lt (g := gb421) (o := .cells #[.slice none 0 0, .slice none 0 0] 26 (0, 0)) (zb_ BK421.out)) : gb436 ≠ gb421)); replace BK421 := zB_ BK421.out hb; have NB426_436 := zA_ ((by rw [hg]; exact Nat.ne_of_lt (IsS101.lt (show IsS101 w _ g426 t422 t433 t434 t435 from by repeat (first | (with_reducible first | exact HI426.out | apply IsS101.alloc | apply IsS101.drewN | apply IsS101.drew | apply IsS101.set_1 | apply IsS101.set_2 | apply IsS101.set_3 | refine IsS101.far ?_ NB426_421.out _) | exact HI426.out))) : g426 ≠ gb436)); have NB436_426 := zA_ ((by rw [hg]; exact Nat.ne_of_gt (IsS101.lt (show IsS101 w _ g426 t422 t433 t434 t435 from by repeat (first | (with_reducible first | exact HI426.out | apply IsS101.alloc | apply IsS101.drewN | apply IsS101.drew | apply IsS101.set_1 | apply IsS101.set_2 | apply IsS101.set_3 | refine IsS101.far ?_ NB426_421.out _) | exact HI426.out))) : gb436 ≠ g426)); replace HI426 := zA_ (IsS101.below βpa hb); clear hb hbox hg; obtain ⟨Ao11, co11, eo11⟩ := Kd.R_slice HO429.out; subst eo11; have hnb12 := NB436_421.out; have hnc12 := NB421_436.out; have hnb13 := NB436_426.out; have hnc13 := NB426_436.out; have hcz14_0 := cz_ BK436.out 0 (.slice none 0 0) rfl; have hcz14_1 := cz_ BK436.out 1 (.slice none 0 0) rfl; have hfz14_0 := blk_frozen BK436.out 0; have hfz14_1 := blk_frozen BK436.out 1; obtain ⟨Ao15, co15, eo15⟩ := Kd.R_slice HO432.out; subst eo15) | ((with_reducible refine gate_callee (f := 46) rfl ?_); refine goesL_ (some 11) rfl rfl Try.func46 βPb rfl #[.pointer (some ⟨g426, 0, none⟩), .int .i64 10] rfl zs_ ?_; (with_reducible refine (spec_l01Src_one.calls g426 t422 t433 t434 t435 10 true t438 t439 t440 w _ ?side1 ?side2 A4.out).mono ?_); (case side1 => exact βU); (case side2 => exact βma); rintro e w16 ⟨rfl, hi, hb, hk⟩; refine ⟨_, rfl, ?_⟩; replace BK421 := zA_ (KeepBut.blk hk (g' := gb421) (o := .cells #[.slice none 0 0, .slice none 0 0] 26 (0, 0)) (zf2_ NB421_436.out NB421_436.out BK421.out) NB421_426.out (by simp)); replace HO429 := zA_ (Kd.R_mono (Kd.R_keep (IsS101.apart (show IsS101 w _ g426 t422 t433 t434 t435 from by repeat (first | (with_reducible first | exact HI426.out | apply IsS101.alloc | apply IsS101.drewN | apply IsS101.drew | apply IsS101.set_1 | apply IsS101.set_2 | apply IsS101.set_3 | refine IsS101.far ?_ NB426_421.out _ | refine IsS101.far ?_ NB426_436.out _) | exact HI426.out)) (by (with_reducible repeat (first | apply Kd.R_alloc | apply Kd.R_drewN | apply Kd.R_drew)); exact (Kd.R_mono (Kd.R_far (p := ⟨gb436, 1, none⟩) (Kd.R_far (p := ⟨gb436, 0, none⟩) (Kd.R_types HO429.out BK436.out (by decide)) (fun _ hk => hk.2) (.slice Ao11 t427.length co11)) (fun _ hk => hk.2) (.slice Ao15 t430.length co15)) (fun _ h_ => h_.1))) (by decide)) hk (fun _ h => h.2)) (fun _ h => h.1)); replace HO432 := zA_ (Kd.R_mono (Kd.R_keep (IsS101.apart (show IsS101 w _ g426 t422 t433 t434 t435 from by repeat (first | (with_reducible first | exact HI426.out | apply IsS101.alloc | apply IsS101.drewN | apply IsS101.drew | apply IsS101.set_1 | apply IsS101.set_2 | apply IsS101.set_3 | refine IsS101.far ?_ NB426_421.out _ | refine IsS101.far ?_ NB426_436.out _) | exact HI426.out)) (by (with_reducible repeat (first | apply Kd.R_alloc | apply Kd.R_drewN | apply Kd.R_drew)); exact (Kd.R_mono (Kd.R_far (p := ⟨gb436, 1, none⟩) (Kd.R_far (p := ⟨gb436, 0, none⟩) (Kd.R_types HO432.out BK436.out (by decide)) (fun _ hk => hk.2) (.slice Ao11 t427.length co11)) (fun _ hk => hk.2) (.slice Ao15 t430.length co15)) (fun _ h_ => h_.1))) (by decide)) hk (fun _ h => h.2)) (fun _ h => h.1)); replace BK436 := zA_ (KeepBut.blk hk (g' := gb436) (o := .cells #[.slice Ao11 t427.length co11, .slice Ao15 t430.length co15] 26 (0, 0)) (by (with_reducible repeat (first | refine blk_drewN ?_ _ | refine blk_drew ?_ | refine blk_alloc ?_ _)); refine blk_put (cs := #[.slice Ao11 t427.length co11, .slice none 0 0]) ?_ 1 _ rfl; (with_reducible repeat (first | refine blk_drewN ?_ _ | refine blk_drew ?_ | refine blk_alloc ?_ _)); refine blk_put (cs := #[.slice none 0 0, .slice none 0 0]) ?_ 0 _ rfl; (with_reducible repeat (first | refine blk_drewN ?_ _ | refine blk_drew ?_ | refine blk_alloc ?_ _)); exact BK436.out) NB436_426.out (by simp)); replace HB := zA_ (hb); replace HI426 := zA_ (hi); (try clear hb); (try clear hb2); (try clear hk); (try clear hi)))
   replace HO429 := zA_ (Kd.R_drew HO429.out)
   replace HO432 := zA_ (Kd.R_drew HO432.out)
   replace BK421 := zA_ (blk_drew BK421.out)
   replace BK436 := zA_ (blk_drew BK436.out)
   replace HI426 := zA_ (IsS101.drew HI426.out)
   replace HB := zA_ (below_drew1 HB.out)
   refine start_ (n := 5) (S := fun w' => w'.cell? ⟨gb436, 0, none⟩ = some (.slice Ao11 t427.length co11) ∧ w'.cell? ⟨gb436, 1, none⟩ = some (.slice Ao15 t430.length co15)) (ds := []) #[false, false, false, false, false] βPb rfl rfl ⟨cy_ BK436.out 0, cy_ BK436.out 1⟩ (fun hHeld => ?_)
   generalize w16.drew = w17 at HO429 HO432 BK421 BK436 HI426 HB hHeld ⊢
   refine pure_ (i := 1) (N := some 13) (v := ?_) (a' := ?_) #[false, true, false, false, false] rfl rfl βPb (fun _ _ _ h => h) (Or.inl ⟨(by rfl), ?_⟩) ?_ ?_
   rotate_left; exact pv_; rotate_left; exact pp_
   refine take_ (i := 0) (N := some 12) (v := ?_) (a' := ?_) #[true, true, false, false, false] rfl rfl βPb (fun _ _ _ h => h) (Or.inl ⟨(by rfl), ?_⟩) hHeld ?_ ?_
   rotate_left
   · rintro w' ⟨s0, s1⟩
     go_simp
     with_reducible rfl
   rotate_left
   exact pp_
   refine one_ (i := 2) (N := some 14) #[true, true, true, false, false] rfl rfl βPb (by decide) (fun K hK => ?_)
   refine goes_ Try.func55 βPb rfl #[.pointer (some ⟨g426, 0, none⟩)] (by rfl) rfl rfl zs_ ?_
   with_reducible refine (spec_l01Src_edge.calls g426 t422 t438 t439 t440 t441 t442 t443 t444 w _ ?side1 ?side2 A6.out).mono ?_
   (case side1 => exact βU)
   (case side2 => exact βma)
   rintro e w18 ⟨rfl, hi, hb, hk⟩
   refine ⟨_, rfl, ?_⟩
   replace BK421 := zA_ (KeepBut.blk hk (g' := gb421) (o := .cells #[.slice none 0 0, .slice none 0 0] 26 (0, 0)) (zb_ BK421.out) NB421_426.out (by simp))
   replace HO429 := zA_ (Kd.R_mono (Kd.R_keep (IsS101.apart (show IsS101 w _ g426 t422 t438 t439 t440 from by repeat (first | (with_reducible first | exact HI426.out | apply IsS101.alloc | apply IsS101.drewN | apply IsS101.drew | apply IsS101.set_1 | apply IsS101.set_2 | apply IsS101.set_3 | refine IsS101.far ?_ NB426_421.out _ | refine IsS101.far ?_ NB426_436.out _) | exact HI426.out)) (zr_ HO429.out) (by decide)) hk (fun _ h => h.2)) (fun _ h => h.1))
   replace HO432 := zA_ (Kd.R_mono (Kd.R_keep (IsS101.apart (show IsS101 w _ g426 t422 t438 t439 t440 from by repeat (first | (with_reducible first | exact HI426.out | apply IsS101.alloc | apply IsS101.drewN | apply IsS101.drew | apply IsS101.set_1 | apply IsS101.set_2 | apply IsS101.set_3 | refine IsS101.far ?_ NB426_421.out _ | refine IsS101.far ?_ NB426_436.out _) | exact HI426.out)) (zr_ HO432.out) (by decide)) hk (fun _ h => h.2)) (fun _ h => h.1))
   replace BK436 := zA_ (KeepBut.blk hk (g' := gb436) (o := .cells #[.slice Ao11 t427.length co11, .slice Ao15 t430.length co15] 26 (0, 0)) (zb_ BK436.out) NB436_426.out (by simp))
   replace HB := zA_ (hb)
   replace HI426 := zA_ (hi)
   (try clear hb)
   (try clear hb2)
   (try clear hk)
   (try clear hi)
   refine hK.out _ _ ⟨cy_ BK436.out 0, cy_ BK436.out 1⟩ (fun hHeld => ?_)
   clear hK K
   refine norm_ (a' := ?_) ?_ ?_
   rotate_left
   · show Act.put _ (some 14) _ = _
     simp only [Act.put, List.setIfInBounds_toArray, List.set_cons_zero, List.set_cons_succ, i64_w, i32_w]
     rfl
   refine one_ (i := 3) (N := none) #[true, true, true, true, false] rfl rfl βPb (by decide) (fun K hK => ?_)
   have hs19 := cz_ BK421.out 0 (.slice none 0 0) rfl
   have hfs19 := blk_frozen BK421.out 0
   have hns19_1 := NB436_421.out
   have hms19_1 := NB421_436.out
   have hs20 := cz_ BK421.out 1 (.slice none 0 0) rfl
   have hfs20 := blk_frozen BK421.out 1
   have hns20_1 := NB436_421.out
   have hms20_1 := NB421_436.out
   refine skip_ (w1 := ?_) (by rfl) rfl ?_ ?_
   rotate_left
   · go_simp
     rfl
   refine hK.out _ _ ⟨((cell_far (p := ⟨gb421, _, none⟩) NB436_421.out _).trans (((cell_far (p := ⟨gb421, _, none⟩) NB436_421.out _).trans (hHeld.1)))), ((cell_far (p := ⟨gb421, _, none⟩) NB436_421.out _).trans (((cell_far (p := ⟨gb421, _, none⟩) NB436_421.out _).trans (hHeld.2))))⟩ (fun hHeld => ?_)
   clear hK K
   refine pure_ (i := 4) (N := some 3) (v := ?_) (a' := ?_) #[true, true, true, true, true] rfl rfl βPb (fun _ _ _ h => h) (Or.inl ⟨(by rfl), ?_⟩) ?_ ?_
   rotate_left; exact pv_; rotate_left; exact pp_
   refine done_ βPb ?_
   try go_wp2
   refine bodyPost_ret (results_ct rfl _ _ gb421 26 #[.slice Ao11 t427.length co11, .slice Ao15 t430.length co15] (0, 0) _ rfl (by (with_reducible repeat (first | refine blk_drewN ?_ _ | refine blk_drew ?_ | refine blk_alloc ?_ _)); refine blk_put (cs := #[.slice Ao11 t427.length co11, .slice none 0 0]) ?_ 1 _ rfl; (with_reducible repeat (first | refine blk_drewN ?_ _ | refine blk_drew ?_ | refine blk_alloc ?_ _)); refine blk_put (cs := #[.slice none 0 0, .slice none 0 0]) ?_ 0 _ rfl; (with_reducible repeat (first | refine blk_drewN ?_ _ | refine blk_drew ?_ | refine blk_alloc ?_ _)); exact BK421.out) Try.underlying26 rfl βPb) rfl ?_
   exact ⟨_, _, βFb, (by (with_reducible repeat (first | apply Kd.R_alloc | apply Kd.R_drewN | apply Kd.R_drew)); exact Kd.R_mono (Kd.R_far (p := ⟨gb421, 1, none⟩) (Kd.R_far (p := ⟨gb421, 0, none⟩) (Kd.R_types HO429.out BK421.out (by decide)) (fun _ hk => hk.2) (.slice Ao11 t427.length co11)) (fun _ hk => hk.2) (.slice Ao15 t430.length co15)) (fun _ hk => trivial)), (by (with_reducible repeat (first | apply Kd.R_alloc | apply Kd.R_drewN | apply Kd.R_drew)); exact Kd.R_mono (Kd.R_far (p := ⟨gb421, 1, none⟩) (Kd.R_far (p := ⟨gb421, 0, none⟩) (Kd.R_types HO432.out BK421.out (by decide)) (fun _ hk => hk.2) (.slice Ao11 t427.length co11)) (fun _ hk => hk.2) (.slice Ao15 t430.length co15)) (fun _ hk => trivial)), βma⟩
 · replace c5 := Bool.eq_false_iff.mpr c5
   subst c5
   have H1 : ((spec_l01Src_n.f t422 t438 t439 t440 8).bind fun bt445 => (some (t427, t430, bt445.1))) = some (r1, r2, r3) := by rw [if_neg (show ¬ (false = true) by decide)] at H; exact H
   clear H
   have H := H1
   clear H1
   replace H := Option.bind_eq_some_iff.mp H
   obtain ⟨⟨t445, t446, t447, t448⟩, A210, H⟩ := H
   (try dsimp -simprocs only at H)
   have A21 := zA_ A210
   clear A210
   simp only [Option.some.injEq, Prod.mk.injEq] at H
   obtain ⟨rfl, rfl, rfl⟩ := H
   go_enter Try.func10, Try.ntmps10
   try go_wp2_with (first | ((with_reducible refine gate_dst (N := 2) rfl ?_); refine box_event ?hg (N := 2) ?hd (cs := #[.slice none 0 0, .slice none 0 0]) (t := 26) ?hr ?_; (case hd => exact (by rfl)); (case hg => exact (by rfl)); (case hr => exact βMb); intro gb421 hg w22 hbox hb; have BK421 := zA_ (hbox); have GW421 := zA_ ((by rw [hg]; exact (below_size (zh_ HB.out)) : w.heap.size ≤ gb421)); have GE421 := zA_ ((by rw [hg]; exact (below_size (zh_ HB.out)) : w.heap.size ≤ gb421)); replace HB := zA_ (below_step (zh_ HB.out) hb); clear hb hbox hg) | ((with_reducible refine gate_callee (f := 43) rfl ?_); refine goesL_ (some 7) rfl rfl Try.func43 βPb rfl #[.slice A0 l0.length c0] rfl zs_ ?_; (with_reducible refine (spec_l01Source.calls k _ _ l0 t422 t423 t424 t425 w _ ?side1 ?side2 ?side3 A2.out).mono ?_); (case side1 => exact βub); (case side2 => exact HR0.out); (case side3 => exact HC0.out); rintro e w23 ⟨g426, rfl, hi, hb, hb2⟩; refine ⟨_, rfl, ?_⟩; replace HB := zA_ (hb); have HI426 := zA_ (hi); have NB426_421 := zA_ (IsS101.ne_blk hi (blk_below (g := gb421) (o := .cells #[.slice none 0 0, .slice none 0 0] 26 (0, 0)) (zb_ BK421.out) hb2) (by decide)); have NB421_426 := zA_ (Ne.symm (IsS101.ne_blk hi (blk_below (g := gb421) (o := .cells #[.slice none 0 0, .slice none 0 0] 26 (0, 0)) (zb_ BK421.out) hb2) (by decide))); replace BK421 := zA_ (blk_below (g := gb421) (o := .cells #[.slice none 0 0, .slice none 0 0] 26 (0, 0)) (zb_ BK421.out) hb2); (try clear hb); (try clear hb2); (try clear hk); (try clear hi)) | ((with_reducible refine gate_callee (f := 44) rfl ?_); refine goesL_ (some 9) rfl rfl Try.func44 βPb rfl #[.pointer (some ⟨g426, 0, none⟩)] rfl zs_ ?_; (with_reducible refine (spec_l01Src_l03Flash.calls k g426 t422 t423 t424 t425 t427 t430 t433 t434 t435 w _ ?side1 ?side2 A3.out).mono ?_); (case side1 => exact βpa); (case side2 => exact βLa); rintro e w24 ⟨v428, v431, rfl, ho0, ho1, hi, hb, hk⟩; refine ⟨_, rfl, ?_⟩; replace BK421 := zA_ (KeepBut.blk hk (g' := gb421) (o := .cells #[.slice none 0 0, .slice none 0 0] 26 (0, 0)) (zb_ BK421.out) NB421_426.out (by simp)); have HO429 := zA_ (Kd.R_lower ho0 (below_size βLa)); have HO432 := zA_ (Kd.R_lower ho1 (below_size βLa)); replace HB := zA_ (hb); replace HI426 := zA_ (hi); (try clear hb); (try clear hb2); (try clear hk); (try clear hi); (try clear ho0); (try clear ho1)) | ((with_reducible refine gate_dst (N := 5) rfl ?_); refine box_event ?hg (N := 5) ?hd (cs := #[.slice none 0 0, .slice none 0 0]) (t := 26) ?hr ?_; (case hd => exact (by rfl)); (case hg => exact (by rfl)); (case hr => exact βMb); intro gb436 hg w25 hbox hb; replace HO429 := zR_ HO429.out hb; replace HO432 := zR_ HO432.out hb; have BK436 := zA_ (hbox); have GW436 := zA_ ((by rw [hg]; exact (below_size βLa) : w.heap.size ≤ gb436)); have GE436 := zA_ ((by rw [hg]; exact (below_size βLa) : w.heap.size ≤ gb436)); replace HB := zA_ (below_step βLa hb); have NB421_436 := zA_ ((by rw [hg]; exact Nat.ne_of_lt (blk_lt (g := gb421) (o := .cells #[.slice none 0 0, .slice none 0 0] 26 (0, 0)) (zb_ BK421.out)) : gb421 ≠ gb436)); have NB436_421 := zA_ ((by rw [hg]; exact Nat.ne_of_gt (blk_lt (g := gb421) (o := .cells #[.slice none 0 0, .slice none 0 0] 26 (0, 0)) (zb_ BK421.out)) : gb436 ≠ gb421)); replace BK421 := zB_ BK421.out hb; have NB426_436 := zA_ ((by rw [hg]; exact Nat.ne_of_lt (IsS101.lt (show IsS101 w _ g426 t422 t433 t434 t435 from by repeat (first | (with_reducible first | exact HI426.out | apply IsS101.alloc | apply IsS101.drewN | apply IsS101.drew | apply IsS101.set_1 | apply IsS101.set_2 | apply IsS101.set_3 | refine IsS101.far ?_ NB426_421.out _) | exact HI426.out))) : g426 ≠ gb436)); have NB436_426 := zA_ ((by rw [hg]; exact Nat.ne_of_gt (IsS101.lt (show IsS101 w _ g426 t422 t433 t434 t435 from by repeat (first | (with_reducible first | exact HI426.out | apply IsS101.alloc | apply IsS101.drewN | apply IsS101.drew | apply IsS101.set_1 | apply IsS101.set_2 | apply IsS101.set_3 | refine IsS101.far ?_ NB426_421.out _) | exact HI426.out))) : gb436 ≠ g426)); replace HI426 := zA_ (IsS101.below βpa hb); clear hb hbox hg; obtain ⟨Ao26, co26, eo26⟩ := Kd.R_slice HO429.out; subst eo26; have hnb27 := NB436_421.out; have hnc27 := NB421_436.out; have hnb28 := NB436_426.out; have hnc28 := NB426_436.out; have hcz29_0 := cz_ BK436.out 0 (.slice none 0 0) rfl; have hcz29_1 := cz_ BK436.out 1 (.slice none 0 0) rfl; have hfz29_0 := blk_frozen BK436.out 0; have hfz29_1 := blk_frozen BK436.out 1; obtain ⟨Ao30, co30, eo30⟩ := Kd.R_slice HO432.out; subst eo30) | ((with_reducible refine gate_callee (f := 46) rfl ?_); refine goesL_ (some 11) rfl rfl Try.func46 βPb rfl #[.pointer (some ⟨g426, 0, none⟩), .int .i64 10] rfl zs_ ?_; (with_reducible refine (spec_l01Src_one.calls g426 t422 t433 t434 t435 10 false t438 t439 t440 w _ ?side1 ?side2 A4.out).mono ?_); (case side1 => exact βU); (case side2 => exact βma); rintro e w31 ⟨rfl, hi, hb, hk⟩; refine ⟨_, rfl, ?_⟩; replace BK421 := zA_ (KeepBut.blk hk (g' := gb421) (o := .cells #[.slice none 0 0, .slice none 0 0] 26 (0, 0)) (zf2_ NB421_436.out NB421_436.out BK421.out) NB421_426.out (by simp)); replace HO429 := zA_ (Kd.R_mono (Kd.R_keep (IsS101.apart (show IsS101 w _ g426 t422 t433 t434 t435 from by repeat (first | (with_reducible first | exact HI426.out | apply IsS101.alloc | apply IsS101.drewN | apply IsS101.drew | apply IsS101.set_1 | apply IsS101.set_2 | apply IsS101.set_3 | refine IsS101.far ?_ NB426_421.out _ | refine IsS101.far ?_ NB426_436.out _) | exact HI426.out)) (by (with_reducible repeat (first | apply Kd.R_alloc | apply Kd.R_drewN | apply Kd.R_drew)); exact (Kd.R_mono (Kd.R_far (p := ⟨gb436, 1, none⟩) (Kd.R_far (p := ⟨gb436, 0, none⟩) (Kd.R_types HO429.out BK436.out (by decide)) (fun _ hk => hk.2) (.slice Ao26 t427.length co26)) (fun _ hk => hk.2) (.slice Ao30 t430.length co30)) (fun _ h_ => h_.1))) (by decide)) hk (fun _ h => h.2)) (fun _ h => h.1)); replace HO432 := zA_ (Kd.R_mono (Kd.R_keep (IsS101.apart (show IsS101 w _ g426 t422 t433 t434 t435 from by repeat (first | (with_reducible first | exact HI426.out | apply IsS101.alloc | apply IsS101.drewN | apply IsS101.drew | apply IsS101.set_1 | apply IsS101.set_2 | apply IsS101.set_3 | refine IsS101.far ?_ NB426_421.out _ | refine IsS101.far ?_ NB426_436.out _) | exact HI426.out)) (by (with_reducible repeat (first | apply Kd.R_alloc | apply Kd.R_drewN | apply Kd.R_drew)); exact (Kd.R_mono (Kd.R_far (p := ⟨gb436, 1, none⟩) (Kd.R_far (p := ⟨gb436, 0, none⟩) (Kd.R_types HO432.out BK436.out (by decide)) (fun _ hk => hk.2) (.slice Ao26 t427.length co26)) (fun _ hk => hk.2) (.slice Ao30 t430.length co30)) (fun _ h_ => h_.1))) (by decide)) hk (fun _ h => h.2)) (fun _ h => h.1)); replace BK436 := zA_ (KeepBut.blk hk (g' := gb436) (o := .cells #[.slice Ao26 t427.length co26, .slice Ao30 t430.length co30] 26 (0, 0)) (by (with_reducible repeat (first | refine blk_drewN ?_ _ | refine blk_drew ?_ | refine blk_alloc ?_ _)); refine blk_put (cs := #[.slice Ao26 t427.length co26, .slice none 0 0]) ?_ 1 _ rfl; (with_reducible repeat (first | refine blk_drewN ?_ _ | refine blk_drew ?_ | refine blk_alloc ?_ _)); refine blk_put (cs := #[.slice none 0 0, .slice none 0 0]) ?_ 0 _ rfl; (with_reducible repeat (first | refine blk_drewN ?_ _ | refine blk_drew ?_ | refine blk_alloc ?_ _)); exact BK436.out) NB436_426.out (by simp)); replace HB := zA_ (hb); replace HI426 := zA_ (hi); (try clear hb); (try clear hb2); (try clear hk); (try clear hi)))
   replace HO429 := zA_ (Kd.R_drew HO429.out)
   replace HO432 := zA_ (Kd.R_drew HO432.out)
   replace BK421 := zA_ (blk_drew BK421.out)
   replace BK436 := zA_ (blk_drew BK436.out)
   replace HI426 := zA_ (IsS101.drew HI426.out)
   replace HB := zA_ (below_drew1 HB.out)
   refine start_ (n := 5) (S := fun w' => w'.cell? ⟨gb436, 0, none⟩ = some (.slice Ao26 t427.length co26) ∧ w'.cell? ⟨gb436, 1, none⟩ = some (.slice Ao30 t430.length co30)) (ds := []) #[false, false, false, false, false] βPb rfl rfl ⟨cy_ BK436.out 0, cy_ BK436.out 1⟩ (fun hHeld => ?_)
   generalize w31.drew = w32 at HO429 HO432 BK421 BK436 HI426 HB hHeld ⊢
   refine pure_ (i := 1) (N := some 16) (v := ?_) (a' := ?_) #[false, true, false, false, false] rfl rfl βPb (fun _ _ _ h => h) (Or.inl ⟨(by rfl), ?_⟩) ?_ ?_
   rotate_left; exact pv_; rotate_left; exact pp_
   refine take_ (i := 0) (N := some 15) (v := ?_) (a' := ?_) #[true, true, false, false, false] rfl rfl βPb (fun _ _ _ h => h) (Or.inl ⟨(by rfl), ?_⟩) hHeld ?_ ?_
   rotate_left
   · rintro w' ⟨s0, s1⟩
     go_simp
     with_reducible rfl
   rotate_left
   exact pp_
   refine one_ (i := 2) (N := some 17) #[true, true, true, false, false] rfl rfl βPb (by decide) (fun K hK => ?_)
   refine goes_ Try.func45 βPb rfl #[.pointer (some ⟨g426, 0, none⟩), .int .i64 8] (by rfl) rfl rfl zs_ ?_
   with_reducible refine (spec_l01Src_n.calls g426 t422 t438 t439 t440 8 t445 t446 t447 t448 w _ ?side1 ?side2 A21.out).mono ?_
   (case side1 => exact βU)
   (case side2 => exact βma)
   rintro e w33 ⟨rfl, hi, hb, hk⟩
   refine ⟨_, rfl, ?_⟩
   replace BK421 := zA_ (KeepBut.blk hk (g' := gb421) (o := .cells #[.slice none 0 0, .slice none 0 0] 26 (0, 0)) (zb_ BK421.out) NB421_426.out (by simp))
   replace HO429 := zA_ (Kd.R_mono (Kd.R_keep (IsS101.apart (show IsS101 w _ g426 t422 t438 t439 t440 from by repeat (first | (with_reducible first | exact HI426.out | apply IsS101.alloc | apply IsS101.drewN | apply IsS101.drew | apply IsS101.set_1 | apply IsS101.set_2 | apply IsS101.set_3 | refine IsS101.far ?_ NB426_421.out _ | refine IsS101.far ?_ NB426_436.out _) | exact HI426.out)) (zr_ HO429.out) (by decide)) hk (fun _ h => h.2)) (fun _ h => h.1))
   replace HO432 := zA_ (Kd.R_mono (Kd.R_keep (IsS101.apart (show IsS101 w _ g426 t422 t438 t439 t440 from by repeat (first | (with_reducible first | exact HI426.out | apply IsS101.alloc | apply IsS101.drewN | apply IsS101.drew | apply IsS101.set_1 | apply IsS101.set_2 | apply IsS101.set_3 | refine IsS101.far ?_ NB426_421.out _ | refine IsS101.far ?_ NB426_436.out _) | exact HI426.out)) (zr_ HO432.out) (by decide)) hk (fun _ h => h.2)) (fun _ h => h.1))
   replace BK436 := zA_ (KeepBut.blk hk (g' := gb436) (o := .cells #[.slice Ao26 t427.length co26, .slice Ao30 t430.length co30] 26 (0, 0)) (zb_ BK436.out) NB436_426.out (by simp))
   replace HB := zA_ (hb)
   replace HI426 := zA_ (hi)
   (try clear hb)
   (try clear hb2)
   (try clear hk)
   (try clear hi)
   refine hK.out _ _ ⟨cy_ BK436.out 0, cy_ BK436.out 1⟩ (fun hHeld => ?_)
   clear hK K
   refine norm_ (a' := ?_) ?_ ?_
   rotate_left
   · show Act.put _ (some 17) _ = _
     simp only [Act.put, List.setIfInBounds_toArray, List.set_cons_zero, List.set_cons_succ, i64_w, i32_w]
     rfl
   refine one_ (i := 3) (N := none) #[true, true, true, true, false] rfl rfl βPb (by decide) (fun K hK => ?_)
   have hs34 := cz_ BK421.out 0 (.slice none 0 0) rfl
   have hfs34 := blk_frozen BK421.out 0
   have hns34_1 := NB436_421.out
   have hms34_1 := NB421_436.out
   have hs35 := cz_ BK421.out 1 (.slice none 0 0) rfl
   have hfs35 := blk_frozen BK421.out 1
   have hns35_1 := NB436_421.out
   have hms35_1 := NB421_436.out
   refine skip_ (w1 := ?_) (by rfl) rfl ?_ ?_
   rotate_left
   · go_simp
     rfl
   refine hK.out _ _ ⟨((cell_far (p := ⟨gb421, _, none⟩) NB436_421.out _).trans (((cell_far (p := ⟨gb421, _, none⟩) NB436_421.out _).trans (hHeld.1)))), ((cell_far (p := ⟨gb421, _, none⟩) NB436_421.out _).trans (((cell_far (p := ⟨gb421, _, none⟩) NB436_421.out _).trans (hHeld.2))))⟩ (fun hHeld => ?_)
   clear hK K
   refine pure_ (i := 4) (N := some 3) (v := ?_) (a' := ?_) #[true, true, true, true, true] rfl rfl βPb (fun _ _ _ h => h) (Or.inl ⟨(by rfl), ?_⟩) ?_ ?_
   rotate_left; exact pv_; rotate_left; exact pp_
   refine done_ βPb ?_
   try go_wp2
   refine bodyPost_ret (results_ct rfl _ _ gb421 26 #[.slice Ao26 t427.length co26, .slice Ao30 t430.length co30] (0, 0) _ rfl (by (with_reducible repeat (first | refine blk_drewN ?_ _ | refine blk_drew ?_ | refine blk_alloc ?_ _)); refine blk_put (cs := #[.slice Ao26 t427.length co26, .slice none 0 0]) ?_ 1 _ rfl; (with_reducible repeat (first | refine blk_drewN ?_ _ | refine blk_drew ?_ | refine blk_alloc ?_ _)); refine blk_put (cs := #[.slice none 0 0, .slice none 0 0]) ?_ 0 _ rfl; (with_reducible repeat (first | refine blk_drewN ?_ _ | refine blk_drew ?_ | refine blk_alloc ?_ _)); exact BK421.out) Try.underlying26 rfl βPb) rfl ?_
   exact ⟨_, _, βFb, (by (with_reducible repeat (first | apply Kd.R_alloc | apply Kd.R_drewN | apply Kd.R_drew)); exact Kd.R_mono (Kd.R_far (p := ⟨gb421, 1, none⟩) (Kd.R_far (p := ⟨gb421, 0, none⟩) (Kd.R_types HO429.out BK421.out (by decide)) (fun _ hk => hk.2) (.slice Ao26 t427.length co26)) (fun _ hk => hk.2) (.slice Ao30 t430.length co30)) (fun _ hk => trivial)), (by (with_reducible repeat (first | apply Kd.R_alloc | apply Kd.R_drewN | apply Kd.R_drew)); exact Kd.R_mono (Kd.R_far (p := ⟨gb421, 1, none⟩) (Kd.R_far (p := ⟨gb421, 0, none⟩) (Kd.R_types HO432.out BK421.out (by decide)) (fun _ hk => hk.2) (.slice Ao26 t427.length co26)) (fun _ hk => hk.2) (.slice Ao30 t430.length co30)) (fun _ hk => trivial)), βma⟩
def spec_DrawFlashNew.f (k : Nat) (l0 : List Int) : Option (Int) := (spec_l01Source.f k l0).bind fun bt449 => ((spec_l01Src_one.f bt449.1 bt449.2.1 bt449.2.2.1 bt449.2.2.2 4).bind fun bt454 => (if bt454.1 = true then ((spec_l01Src_edge.f bt449.1 bt454.2.1 bt454.2.2.1 bt454.2.2.2).bind fun bt458 => ((some (([0, 1, 40, 41, bt458.1] : List Int) : List Int)).bind fun y462 => ((spec_l01Src_n.f bt449.1 bt458.2.1 bt458.2.2.1 bt458.2.2.2 5).bind fun bt465 => (if 0 ≤ bt465.1 then (if bt465.1 < (y462.length : Int) then (some (rd y462 bt465.1)) else (none)) else (none))))) else ((spec_l01Src_n.f bt449.1 bt454.2.1 bt454.2.2.1 bt454.2.2.2 20).bind fun bt470 => (some bt470.1))))
theorem spec_DrawFlashNew.calls (k : Nat) (A0 : Option Addr) (c0 : Nat) (l0 : List Int) (r : Int) (w : World) (hr0 : Kd.C (Kd.int .u8) w A0 l0.length l0) (hc0 : l0.length ≤ c0) (h : spec_DrawFlashNew.f k l0 = some r) :
 Calls Try.prog 11 #[.slice A0 l0.length c0] w fun e w' => e = .returned (.int .i64 r) ∧ Below w.heap.size w w' := by
 have HR0 := zA_ hr0
 have HC0 := zA_ hc0
 clear hr0 hc0
 have HB := zA_ (Below.refl w.heap.size w)
 have H : ((spec_l01Source.f k l0).bind fun bt449 => ((spec_l01Src_one.f bt449.1 bt449.2.1 bt449.2.2.1 bt449.2.2.2 4).bind fun bt454 => (if bt454.1 = true then ((spec_l01Src_edge.f bt449.1 bt454.2.1 bt454.2.2.1 bt454.2.2.2).bind fun bt458 => ((some (([0, 1, 40, 41, bt458.1] : List Int) : List Int)).bind fun y462 => ((spec_l01Src_n.f bt449.1 bt458.2.1 bt458.2.2.1 bt458.2.2.2 5).bind fun bt465 => (if 0 ≤ bt465.1 then (if bt465.1 < (y462.length : Int) then (some (rd y462 bt465.1)) else (none)) else (none))))) else ((spec_l01Src_n.f bt449.1 bt454.2.1 bt454.2.2.1 bt454.2.2.2 20).bind fun bt470 => (some bt470.1))))) = some r := h
 clear h
 replace H := Option.bind_eq_some_iff.mp H
 obtain ⟨⟨t449, t450, t451, t452⟩, A20, H⟩ := H
 (try dsimp -simprocs only at H)
 have A2 := zA_ A20
 clear A20
 replace H := Option.bind_eq_some_iff.mp H
 obtain ⟨⟨t454, t455, t456, t457⟩, A30, H⟩ := H
 (try dsimp -simprocs only at H)
 have A3 := zA_ A30
 clear A30
 by_cases c4 : t454 = true
 · subst c4
   have H1 : ((spec_l01Src_edge.f t449 t455 t456 t457).bind fun bt458 => ((some (([0, 1, 40, 41, bt458.1] : List Int) : List Int)).bind fun y462 => ((spec_l01Src_n.f t449 bt458.2.1 bt458.2.2.1 bt458.2.2.2 5).bind fun bt465 => (if 0 ≤ bt465.1 then (if bt465.1 < (y462.length : Int) then (some (rd y462 bt465.1)) else (none)) else (none))))) = some r := by rw [if_pos rfl] at H; exact H
   clear H
   have H := H1
   clear H1
   replace H := Option.bind_eq_some_iff.mp H
   obtain ⟨⟨t458, t459, t460, t461⟩, A50, H⟩ := H
   (try dsimp -simprocs only at H)
   have A5 := zA_ A50
   clear A50
   obtain ⟨y462, hy462⟩ : ∃ y_ : List Int, y_ = (([0, 1, 40, 41, t458] : List Int)) := ⟨_, rfl⟩
   replace H : ((spec_l01Src_n.f t449 t459 t460 t461 5).bind fun bt465 => (if 0 ≤ bt465.1 then (if bt465.1 < (y462.length : Int) then (some (rd y462 bt465.1)) else (none)) else (none))) = some r := by first | (rw [hy462]; with_reducible exact H) | (have H2_ := (Option.bind_some _ _).symm.trans H; rw [hy462]; with_reducible exact H2_) | (have H2_ := (Option.bind_some _ _).symm.trans H; with_reducible exact H2_) | with_reducible exact H | (rw [hy462]; exact H) | exact H
   have Ny462 := zA_ hy462
   clear hy462
   replace H := Option.bind_eq_some_iff.mp H
   obtain ⟨⟨t465, t466, t467, t468⟩, A60, H⟩ := H
   (try dsimp -simprocs only at H)
   have A6 := zA_ A60
   clear A60
   by_cases c7 : 0 ≤ t465
   · rw [if_pos c7] at H
     have c7b0 : decide (0 ≤ t465) = true := decide_eq_true c7
     clear c7
     by_cases c8 : t465 < (y462.length : Int)
     · rw [if_pos c8] at H
       have c8b0 : decide (t465 < (y462.length : Int)) = true := decide_eq_true c8
       clear c8
       obtain rfl := Option.some.inj H
       go_enter Try.func11, Try.ntmps11
       go_wp2_with (first | ((with_reducible refine gate_callee (f := 43) rfl ?_); refine goesL_ (some 5) rfl rfl Try.func43 βPb rfl #[.slice A0 l0.length c0] rfl zs_ ?_; (with_reducible refine (spec_l01Source.calls k _ _ l0 t449 t450 t451 t452 w _ ?side1 ?side2 ?side3 A2.out).mono ?_); (case side1 => exact βCb); (case side2 => exact HR0.out); (case side3 => exact HC0.out); rintro e w9 ⟨g453, rfl, hi, hb, hb2⟩; refine ⟨_, rfl, ?_⟩; replace HB := zA_ (hb); have HI453 := zA_ (hi); (try clear hb); (try clear hb2); (try clear hk); (try clear hi)) | ((with_reducible refine gate_callee (f := 46) rfl ?_); refine goesL_ (some 7) rfl rfl Try.func46 βPb rfl #[.pointer (some ⟨g453, 0, none⟩), .int .i64 4] rfl zs_ ?_; (with_reducible refine (spec_l01Src_one.calls g453 t449 t450 t451 t452 4 true t455 t456 t457 w _ ?side1 ?side2 A3.out).mono ?_); (case side1 => exact βZa); (case side2 => exact βkb); rintro e w10 ⟨rfl, hi, hb, hk⟩; refine ⟨_, rfl, ?_⟩; replace HB := zA_ (hb); replace HI453 := zA_ (hi); (try clear hb); (try clear hb2); (try clear hk); (try clear hi)) | ((with_reducible refine gate_callee (f := 55) rfl ?_); refine goesL_ (some 9) rfl rfl Try.func55 βPb rfl #[.pointer (some ⟨g453, 0, none⟩)] rfl zs_ ?_; (with_reducible refine (spec_l01Src_edge.calls g453 t449 t455 t456 t457 t458 t459 t460 t461 w _ ?side1 ?side2 A5.out).mono ?_); (case side1 => exact βZa); (case side2 => exact βkb); rintro e w11 ⟨rfl, hi, hb, hk⟩; refine ⟨_, rfl, ?_⟩; replace HB := zA_ (hb); replace HI453 := zA_ (hi); (try clear hb); (try clear hb2); (try clear hk); (try clear hi)) | ((with_reducible refine gate_dst (N := 10) rfl ?_); refine Kd.R_lit (Kd.int .i64) _ 2 ?hg (N := 10) ?hd (xs := ([0, 1, 40, 41, t458] : List Int)) (inner := [.int .i64 0, .int .i64 1, .int .i64 40, .int .i64 41, .int .i64 t458]) (ok := fun _ => True) (okp := fun _ => True) ?hr ?hp (fun _ hk => hk) trivial (Below.refl _ _) (Nat.le_refl _) (by simp) ?_; (case hd => exact (by rfl)); (case hg => exact (by rfl)); (case hr => exact βMb); (case hp => exact (Reps.one (show Kd.M (Kd.int .i64) _ _ _ 0 [.int .i64 0] from rfl) (Reps.one (show Kd.M (Kd.int .i64) _ _ _ 1 [.int .i64 1] from rfl) (Reps.one (show Kd.M (Kd.int .i64) _ _ _ 40 [.int .i64 40] from rfl) (Reps.one (show Kd.M (Kd.int .i64) _ _ _ 41 [.int .i64 41] from rfl) (Reps.one (show Kd.M (Kd.int .i64) _ _ _ t458 [.int .i64 t458] from rfl) (Reps.none _ _))))))); intro v463 w12 ho13 hb hg_ hnew_; clear hg_ hnew_; (first | rw [← Ny462.out] at ho13 | (simp only [Int.reduceToNat] at ho13; rw [← Ny462.out] at ho13)); have HO464 := zA_ (Kd.R_lower ho13 (below_size βkb)); replace HB := zA_ (below_step βkb hb); replace HI453 := zA_ (IsS101.below βZa hb); clear hb ho13) | ((with_reducible refine gate_callee (f := 45) rfl ?_); refine goesL_ (some 12) rfl rfl Try.func45 βPb rfl #[.pointer (some ⟨g453, 0, none⟩), .int .i64 5] rfl zs_ ?_; (with_reducible refine (spec_l01Src_n.calls g453 t449 t459 t460 t461 5 t465 t466 t467 t468 w _ ?side1 ?side2 A6.out).mono ?_); (case side1 => exact βZa); (case side2 => exact βkb); rintro e w14 ⟨rfl, hi, hb, hk⟩; refine ⟨_, rfl, ?_⟩; replace HO464 := zA_ (Kd.R_mono (Kd.R_keep (IsS101.apart (show IsS101 w _ g453 t449 t459 t460 t461 from by repeat (first | (with_reducible first | exact HI453.out | apply IsS101.alloc | apply IsS101.drewN | apply IsS101.drew | apply IsS101.set_1 | apply IsS101.set_2 | apply IsS101.set_3) | exact HI453.out)) (zr_ HO464.out) (by decide)) hk (fun _ h => h.2)) (fun _ h => h.1)); replace HB := zA_ (hb); replace HI453 := zA_ (hi); (try clear hb); (try clear hb2); (try clear hk); (try clear hi); obtain ⟨Ao15, co15, eo15⟩ := Kd.R_slice HO464.out; subst eo15; have p469 : 0 ≤ (t465 : Int) := of_decide_eq_true βKb; have q469 : t465 < (y462.length : Int) := of_decide_eq_true βKb; obtain ⟨ad469, e469, hx469_0⟩ := Kd.at_int (Kd.R_reads' HO464.out).2.2 t465 p469 q469; cases e469; replace p469 := eq_true p469; replace q469 := eq_true q469))
       go_ret
       exact ⟨βFb, βkb⟩
     · rw [if_neg c8] at H
       exact absurd H (by simp)
   · rw [if_neg c7] at H
     exact absurd H (by simp)
 · replace c4 := Bool.eq_false_iff.mpr c4
   subst c4
   have H1 : ((spec_l01Src_n.f t449 t455 t456 t457 20).bind fun bt470 => (some bt470.1)) = some r := by rw [if_neg (show ¬ (false = true) by decide)] at H; exact H
   clear H
   have H := H1
   clear H1
   replace H := Option.bind_eq_some_iff.mp H
   obtain ⟨⟨t470, t471, t472, t473⟩, A160, H⟩ := H
   (try dsimp -simprocs only at H)
   have A16 := zA_ A160
   clear A160
   obtain rfl := Option.some.inj H
   go_enter Try.func11, Try.ntmps11
   go_wp2_with (first | ((with_reducible refine gate_callee (f := 43) rfl ?_); refine goesL_ (some 5) rfl rfl Try.func43 βPb rfl #[.slice A0 l0.length c0] rfl zs_ ?_; (with_reducible refine (spec_l01Source.calls k _ _ l0 t449 t450 t451 t452 w _ ?side1 ?side2 ?side3 A2.out).mono ?_); (case side1 => exact βCb); (case side2 => exact HR0.out); (case side3 => exact HC0.out); rintro e w17 ⟨g453, rfl, hi, hb, hb2⟩; refine ⟨_, rfl, ?_⟩; replace HB := zA_ (hb); have HI453 := zA_ (hi); (try clear hb); (try clear hb2); (try clear hk); (try clear hi)) | ((with_reducible refine gate_callee (f := 46) rfl ?_); refine goesL_ (some 7) rfl rfl Try.func46 βPb rfl #[.pointer (some ⟨g453, 0, none⟩), .int .i64 4] rfl zs_ ?_; (with_reducible refine (spec_l01Src_one.calls g453 t449 t450 t451 t452 4 false t455 t456 t457 w _ ?side1 ?side2 A3.out).mono ?_); (case side1 => exact βZa); (case side2 => exact βkb); rintro e w18 ⟨rfl, hi, hb, hk⟩; refine ⟨_, rfl, ?_⟩; replace HB := zA_ (hb); replace HI453 := zA_ (hi); (try clear hb); (try clear hb2); (try clear hk); (try clear hi)) | ((with_reducible refine gate_callee (f := 45) rfl ?_); refine goesL_ (some 16) rfl rfl Try.func45 βPb rfl #[.pointer (some ⟨g453, 0, none⟩), .int .i64 20] rfl zs_ ?_; (with_reducible refine (spec_l01Src_n.calls g453 t449 t455 t456 t457 20 t470 t471 t472 t473 w _ ?side1 ?side2 A16.out).mono ?_); (case side1 => exact βZa); (case side2 => exact βkb); rintro e w19 ⟨rfl, hi, hb, hk⟩; refine ⟨_, rfl, ?_⟩; replace HB := zA_ (hb); replace HI453 := zA_ (hi); (try clear hb); (try clear hb2); (try clear hk); (try clear hi)))
   go_ret
   exact ⟨βFb, βkb⟩
def spec_DrawTorn.f (k : Nat) (l0 : List Int) : Option (ByteArray × ByteArray × Int) := (spec_l01Source.f k l0).bind fun bt474 => ((spec_l01Src_n.f bt474.1 bt474.2.1 bt474.2.2.1 bt474.2.2.2 9).bind fun bt479 => ((spec_l01Src_bytes.f k bt474.1 bt479.2.1 bt479.2.2.1 bt479.2.2.2 bt479.1).bind fun bt483 => ((spec_l01Src_n.f bt474.1 bt483.2.1 bt483.2.2.1 bt483.2.2.2 9).bind fun bt487 => ((spec_l01Src_bytes.f k bt474.1 bt487.2.1 bt487.2.2.1 bt487.2.2.2 bt487.1).bind fun bt491 => ((spec_l01Src_one.f bt474.1 bt491.2.1 bt491.2.2.1 bt491.2.2.2 8).bind fun bt495 => (if bt495.1 = true then ((spec_l01Src_edge.f bt474.1 bt495.2.1 bt495.2.2.1 bt495.2.2.2).bind fun bt499 => (some (bt483.1, bt491.1, bt499.1))) else ((spec_l01Src_n.f bt474.1 bt495.2.1 bt495.2.2.1 bt495.2.2.2 14).bind fun bt503 => (some (bt483.1, bt491.1, bt503.1)))))))))
theorem spec_DrawTorn.calls (k : Nat) (A0 : Option Addr) (c0 : Nat) (l0 : List Int) (r1 : ByteArray) (r2 : ByteArray) (r3 : Int) (w : World) (hr0 : Kd.C (Kd.int .u8) w A0 l0.length l0) (hc0 : l0.length ≤ c0) (h : spec_DrawTorn.f k l0 = some (r1, r2, r3)) :
 Calls Try.prog 12 #[.slice A0 l0.length c0] w fun e w' => e = .returned (.tuple #[.string r1, .string r2, .int .i64 r3]) ∧ Below w.heap.size w w' := by
 have HR0 := zA_ hr0
 have HC0 := zA_ hc0
 clear hr0 hc0
 have HB := zA_ (Below.refl w.heap.size w)
 have H : ((spec_l01Source.f k l0).bind fun bt474 => ((spec_l01Src_n.f bt474.1 bt474.2.1 bt474.2.2.1 bt474.2.2.2 9).bind fun bt479 => ((spec_l01Src_bytes.f k bt474.1 bt479.2.1 bt479.2.2.1 bt479.2.2.2 bt479.1).bind fun bt483 => ((spec_l01Src_n.f bt474.1 bt483.2.1 bt483.2.2.1 bt483.2.2.2 9).bind fun bt487 => ((spec_l01Src_bytes.f k bt474.1 bt487.2.1 bt487.2.2.1 bt487.2.2.2 bt487.1).bind fun bt491 => ((spec_l01Src_one.f bt474.1 bt491.2.1 bt491.2.2.1 bt491.2.2.2 8).bind fun bt495 => (if bt495.1 = true then ((spec_l01Src_edge.f bt474.1 bt495.2.1 bt495.2.2.1 bt495.2.2.2).bind fun bt499 => (some (bt483.1, bt491.1, bt499.1))) else ((spec_l01Src_n.f bt474.1 bt495.2.1 bt495.2.2.1 bt495.2.2.2 14).bind fun bt503 => (some (bt483.1, bt491.1, bt503.1)))))))))) = some (r1, r2, r3) := h
 clear h
 replace H := Option.bind_eq_some_iff.mp H
 obtain ⟨⟨t474, t475, t476, t477⟩, A20, H⟩ := H
 (try dsimp -simprocs only at H)
 have A2 := zA_ A20
 clear A20
 replace H := Option.bind_eq_some_iff.mp H
 obtain ⟨⟨t479, t480, t481, t482⟩, A30, H⟩ := H
 (try dsimp -simprocs only at H)
 have A3 := zA_ A30
 clear A30
 replace H := Option.bind_eq_some_iff.mp H
 obtain ⟨⟨t483, t484, t485, t486⟩, A40, H⟩ := H
 (try dsimp -simprocs only at H)
 have A4 := zA_ A40
 clear A40
 replace H := Option.bind_eq_some_iff.mp H
 obtain ⟨⟨t487, t488, t489, t490⟩, A50, H⟩ := H
 (try dsimp -simprocs only at H)
 have A5 := zA_ A50
 clear A50
 replace H := Option.bind_eq_some_iff.mp H
 obtain ⟨⟨t491, t492, t493, t494⟩, A60, H⟩ := H
 (try dsimp -simprocs only at H)
 have A6 := zA_ A60
 clear A60
 replace H := Option.bind_eq_some_iff.mp H
 obtain ⟨⟨t495, t496, t497, t498⟩, A70, H⟩ := H
 (try dsimp -simprocs only at H)
 have A7 := zA_ A70
 clear A70
 by_cases c8 : t495 = true
 · subst c8
   have H1 : ((spec_l01Src_edge.f t474 t496 t497 t498).bind fun bt499 => (some (t483, t491, bt499.1))) = some (r1, r2, r3) := by rw [if_pos rfl] at H; exact H
   clear H
   have H := H1
   clear H1
   replace H := Option.bind_eq_some_iff.mp H
   obtain ⟨⟨t499, t500, t501, t502⟩, A90, H⟩ := H
   (try dsimp -simprocs only at H)
   have A9 := zA_ A90
   clear A90
   simp only [Option.some.injEq, Prod.mk.injEq] at H
   obtain ⟨rfl, rfl, rfl⟩ := H
   go_enter Try.func12, Try.ntmps12
   go_wp2_with (first | ((with_reducible refine gate_callee (f := 43) rfl ?_); refine goesL_ (some 9) rfl rfl Try.func43 βPb rfl #[.slice A0 l0.length c0] rfl zs_ ?_; (with_reducible refine (spec_l01Source.calls k _ _ l0 t474 t475 t476 t477 w _ ?side1 ?side2 ?side3 A2.out).mono ?_); (case side1 => exact βCb); (case side2 => exact HR0.out); (case side3 => exact HC0.out); rintro e w10 ⟨g478, rfl, hi, hb, hb2⟩; refine ⟨_, rfl, ?_⟩; replace HB := zA_ (hb); have HI478 := zA_ (hi); (try clear hb); (try clear hb2); (try clear hk); (try clear hi)) | ((with_reducible refine gate_callee (f := 45) rfl ?_); refine goesL_ (some 12) rfl rfl Try.func45 βPb rfl #[.pointer (some ⟨g478, 0, none⟩), .int .i64 9] rfl zs_ ?_; (with_reducible refine (spec_l01Src_n.calls g478 t474 t475 t476 t477 9 t479 t480 t481 t482 w _ ?side1 ?side2 A3.out).mono ?_); (case side1 => exact βab); (case side2 => exact βlb); rintro e w11 ⟨rfl, hi, hb, hk⟩; refine ⟨_, rfl, ?_⟩; replace HB := zA_ (hb); replace HI478 := zA_ (hi); (try clear hb); (try clear hb2); (try clear hk); (try clear hi)) | ((with_reducible refine gate_callee (f := 47) rfl ?_); refine goesL_ (some 13) rfl rfl Try.func47 βPb rfl #[.pointer (some ⟨g478, 0, none⟩), .int .i64 t479] rfl zs_ ?_; (with_reducible refine (spec_l01Src_bytes.calls k g478 t474 t480 t481 t482 t479 t483 t484 t485 t486 w _ ?side1 ?side2 A4.out).mono ?_); (case side1 => exact βab); (case side2 => exact βlb); rintro e w12 ⟨rfl, hi, hb, hk⟩; refine ⟨_, rfl, ?_⟩; replace HB := zA_ (hb); replace HI478 := zA_ (hi); (try clear hb); (try clear hb2); (try clear hk); (try clear hi)) | ((with_reducible refine gate_callee (f := 45) rfl ?_); refine goesL_ (some 16) rfl rfl Try.func45 βPb rfl #[.pointer (some ⟨g478, 0, none⟩), .int .i64 9] rfl zs_ ?_; (with_reducible refine (spec_l01Src_n.calls g478 t474 t484 t485 t486 9 t487 t488 t489 t490 w _ ?side1 ?side2 A5.out).mono ?_); (case side1 => exact βab); (case side2 => exact βlb); rintro e w13 ⟨rfl, hi, hb, hk⟩; refine ⟨_, rfl, ?_⟩; replace HB := zA_ (hb); replace HI478 := zA_ (hi); (try clear hb); (try clear hb2); (try clear hk); (try clear hi)) | ((with_reducible refine gate_callee (f := 47) rfl ?_); refine goesL_ (some 17) rfl rfl Try.func47 βPb rfl #[.pointer (some ⟨g478, 0, none⟩), .int .i64 t487] rfl zs_ ?_; (with_reducible refine (spec_l01Src_bytes.calls k g478 t474 t488 t489 t490 t487 t491 t492 t493 t494 w _ ?side1 ?side2 A6.out).mono ?_); (case side1 => exact βab); (case side2 => exact βlb); rintro e w14 ⟨rfl, hi, hb, hk⟩; refine ⟨_, rfl, ?_⟩; replace HB := zA_ (hb); replace HI478 := zA_ (hi); (try clear hb); (try clear hb2); (try clear hk); (try clear hi)) | ((with_reducible refine gate_callee (f := 46) rfl ?_); refine goesL_ (some 19) rfl rfl Try.func46 βPb rfl #[.pointer (some ⟨g478, 0, none⟩), .int .i64 8] rfl zs_ ?_; (with_reducible refine (spec_l01Src_one.calls g478 t474 t492 t493 t494 8 true t496 t497 t498 w _ ?side1 ?side2 A7.out).mono ?_); (case side1 => exact βab); (case side2 => exact βlb); rintro e w15 ⟨rfl, hi, hb, hk⟩; refine ⟨_, rfl, ?_⟩; replace HB := zA_ (hb); replace HI478 := zA_ (hi); (try clear hb); (try clear hb2); (try clear hk); (try clear hi)) | ((with_reducible refine gate_callee (f := 55) rfl ?_); refine goesL_ (some 23) rfl rfl Try.func55 βPb rfl #[.pointer (some ⟨g478, 0, none⟩)] rfl zs_ ?_; (with_reducible refine (spec_l01Src_edge.calls g478 t474 t496 t497 t498 t499 t500 t501 t502 w _ ?side1 ?side2 A9.out).mono ?_); (case side1 => exact βab); (case side2 => exact βlb); rintro e w16 ⟨rfl, hi, hb, hk⟩; refine ⟨_, rfl, ?_⟩; replace HB := zA_ (hb); replace HI478 := zA_ (hi); (try clear hb); (try clear hb2); (try clear hk); (try clear hi)))
   go_ret3
   exact ⟨βFb, βlb⟩
 · replace c8 := Bool.eq_false_iff.mpr c8
   subst c8
   have H1 : ((spec_l01Src_n.f t474 t496 t497 t498 14).bind fun bt503 => (some (t483, t491, bt503.1))) = some (r1, r2, r3) := by rw [if_neg (show ¬ (false = true) by decide)] at H; exact H
   clear H
   have H := H1
   clear H1
   replace H := Option.bind_eq_some_iff.mp H
   obtain ⟨⟨t503, t504, t505, t506⟩, A170, H⟩ := H
   (try dsimp -simprocs only at H)
   have A17 := zA_ A170
   clear A170
   simp only [Option.some.injEq, Prod.mk.injEq] at H
   obtain ⟨rfl, rfl, rfl⟩ := H
   go_enter Try.func12, Try.ntmps12
   go_wp2_with (first | ((with_reducible refine gate_callee (f := 43) rfl ?_); refine goesL_ (some 9) rfl rfl Try.func43 βPb rfl #[.slice A0 l0.length c0] rfl zs_ ?_; (with_reducible refine (spec_l01Source.calls k _ _ l0 t474 t475 t476 t477 w _ ?side1 ?side2 ?side3 A2.out).mono ?_); (case side1 => exact βCb); (case side2 => exact HR0.out); (case side3 => exact HC0.out); rintro e w18 ⟨g478, rfl, hi, hb, hb2⟩; refine ⟨_, rfl, ?_⟩; replace HB := zA_ (hb); have HI478 := zA_ (hi); (try clear hb); (try clear hb2); (try clear hk); (try clear hi)) | ((with_reducible refine gate_callee (f := 45) rfl ?_); refine goesL_ (some 12) rfl rfl Try.func45 βPb rfl #[.pointer (some ⟨g478, 0, none⟩), .int .i64 9] rfl zs_ ?_; (with_reducible refine (spec_l01Src_n.calls g478 t474 t475 t476 t477 9 t479 t480 t481 t482 w _ ?side1 ?side2 A3.out).mono ?_); (case side1 => exact βab); (case side2 => exact βlb); rintro e w19 ⟨rfl, hi, hb, hk⟩; refine ⟨_, rfl, ?_⟩; replace HB := zA_ (hb); replace HI478 := zA_ (hi); (try clear hb); (try clear hb2); (try clear hk); (try clear hi)) | ((with_reducible refine gate_callee (f := 47) rfl ?_); refine goesL_ (some 13) rfl rfl Try.func47 βPb rfl #[.pointer (some ⟨g478, 0, none⟩), .int .i64 t479] rfl zs_ ?_; (with_reducible refine (spec_l01Src_bytes.calls k g478 t474 t480 t481 t482 t479 t483 t484 t485 t486 w _ ?side1 ?side2 A4.out).mono ?_); (case side1 => exact βab); (case side2 => exact βlb); rintro e w20 ⟨rfl, hi, hb, hk⟩; refine ⟨_, rfl, ?_⟩; replace HB := zA_ (hb); replace HI478 := zA_ (hi); (try clear hb); (try clear hb2); (try clear hk); (try clear hi)) | ((with_reducible refine gate_callee (f := 45) rfl ?_); refine goesL_ (some 16) rfl rfl Try.func45 βPb rfl #[.pointer (some ⟨g478, 0, none⟩), .int .i64 9] rfl zs_ ?_; (with_reducible refine (spec_l01Src_n.calls g478 t474 t484 t485 t486 9 t487 t488 t489 t490 w _ ?side1 ?side2 A5.out).mono ?_); (case side1 => exact βab); (case side2 => exact βlb); rintro e w21 ⟨rfl, hi, hb, hk⟩; refine ⟨_, rfl, ?_⟩; replace HB := zA_ (hb); replace HI478 := zA_ (hi); (try clear hb); (try clear hb2); (try clear hk); (try clear hi)) | ((with_reducible refine gate_callee (f := 47) rfl ?_); refine goesL_ (some 17) rfl rfl Try.func47 βPb rfl #[.pointer (some ⟨g478, 0, none⟩), .int .i64 t487] rfl zs_ ?_; (with_reducible refine (spec_l01Src_bytes.calls k g478 t474 t488 t489 t490 t487 t491 t492 t493 t494 w _ ?side1 ?side2 A6.out).mono ?_); (case side1 => exact βab); (case side2 => exact βlb); rintro e w22 ⟨rfl, hi, hb, hk⟩; refine ⟨_, rfl, ?_⟩; replace HB := zA_ (hb); replace HI478 := zA_ (hi); (try clear hb); (try clear hb2); (try clear hk); (try clear hi)) | ((with_reducible refine gate_callee (f := 46) rfl ?_); refine goesL_ (some 19) rfl rfl Try.func46 βPb rfl #[.pointer (some ⟨g478, 0, none⟩), .int .i64 8] rfl zs_ ?_; (with_reducible refine (spec_l01Src_one.calls g478 t474 t492 t493 t494 8 false t496 t497 t498 w _ ?side1 ?side2 A7.out).mono ?_); (case side1 => exact βab); (case side2 => exact βlb); rintro e w23 ⟨rfl, hi, hb, hk⟩; refine ⟨_, rfl, ?_⟩; replace HB := zA_ (hb); replace HI478 := zA_ (hi); (try clear hb); (try clear hb2); (try clear hk); (try clear hi)) | ((with_reducible refine gate_callee (f := 45) rfl ?_); refine goesL_ (some 27) rfl rfl Try.func45 βPb rfl #[.pointer (some ⟨g478, 0, none⟩), .int .i64 14] rfl zs_ ?_; (with_reducible refine (spec_l01Src_n.calls g478 t474 t496 t497 t498 14 t503 t504 t505 t506 w _ ?side1 ?side2 A17.out).mono ?_); (case side1 => exact βab); (case side2 => exact βlb); rintro e w24 ⟨rfl, hi, hb, hk⟩; refine ⟨_, rfl, ?_⟩; replace HB := zA_ (hb); replace HI478 := zA_ (hi); (try clear hb); (try clear hb2); (try clear hk); (try clear hi)))
   go_ret3
   exact ⟨βFb, βlb⟩
def laws_lwTexts.l0 : Nat → List ByteArray → List ByteArray → Int → Option (Bool)
 | 0, _, _, _ => none
 | k + 1, x0, x1, x5 => if x5 < (x0.length : Int) then (if 0 ≤ x5 then (if x5 < (x1.length : Int) then (if (rdOf ByteArray.empty x0 x5).toList = (rdOf ByteArray.empty x1 x5).toList then (laws_lwTexts.l0 k x0 x1 (wrap64 (x5 + 1))) else (some false)) else (none)) else (none)) else (some true)
def laws_lwTexts.f (k : Nat) (l0 : List ByteArray) (l1 : List ByteArray) : Option (Bool) := if (l0.length : Int) = (l1.length : Int) then (laws_lwTexts.l0 k l0 l1 0) else (some false)
theorem laws_lwTexts.calls (k : Nat) (A0 : Option Addr) (c0 : Nat) (l0 : List ByteArray) (A1 : Option Addr) (c1 : Nat) (l1 : List ByteArray) (r : Bool) (w : World) (hr0 : Kd.C Kd.string w A0 l0.length l0) (hc0 : l0.length ≤ c0) (hr1 : Kd.C Kd.string w A1 l1.length l1) (hc1 : l1.length ≤ c1) (h : laws_lwTexts.f k l0 l1 = some r) :
 Calls Try.prog 59 #[.slice A0 l0.length c0, .slice A1 l1.length c1] w fun e w' => e = .returned (.bool r) ∧ Drawn0 w w' := by
 have HR0 := zA_ hr0
 have HC0 := zA_ hc0
 clear hr0 hc0
 have HR1 := zA_ hr1
 have HC1 := zA_ hc1
 clear hr1 hc1
 have H : (if (l0.length : Int) = (l1.length : Int) then (laws_lwTexts.l0 k l0 l1 0) else (some false)) = some r := h
 clear h
 by_cases c3 : (l0.length : Int) = (l1.length : Int)
 · rw [if_pos c3] at H
   have c3b0 : ((l0.length : Int) == (l1.length : Int)) = true := beq_iff_eq.mpr c3
   have c3b1 : ((l0.length : Int) != (l1.length : Int)) = false := bne_eq_false_iff_eq.mpr c3
   have c3b2 : (l0.length == l1.length) = true := by first | simpa using c3 | (simp at c3 ⊢; omega)
   clear c3
   have H' := zA_ H
   clear H
   go_enter Try.func59, Try.ntmps59
   go_wp2
   repeat (go_quiet (fail); try go_wp2)
   go_loopg [5] k (fun kq v5 w' => ∃ (x5_1 : Int), v5 = .int .i64 x5_1 ∧ Aside0 (laws_lwTexts.l0 kq l0 l1 x5_1 = some r) ∧ Aside0 (kq ≤ k) ∧ Drawn0 w w')
   case atStart => exact ⟨(0), βLb, H', ⟨Nat.le_refl _⟩, βIb⟩
   case round =>
    clear H'
    try clear c1
    try clear p2
    try clear c3
    try clear c3b0
    try clear c3b1
    try clear c3b2
    obtain ⟨x5_1, rfl, HA, HK1, ⟨m1, rfl⟩⟩ := hrel
    cases gk with
    | zero => exact absurd HA.out (by simp [laws_lwTexts.l0])
    | succ k1 =>
     have H := HA.out
     clear HA
     simp only [laws_lwTexts.l0] at H
     by_cases c4 : x5_1 < (l0.length : Int)
     · rw [if_pos c4] at H
       have c4b0 : decide (x5_1 < (l0.length : Int)) = true := decide_eq_true c4
       clear c4
       by_cases c5 : 0 ≤ x5_1
       · rw [if_pos c5] at H
         have c5b0 : decide (0 ≤ x5_1) = true := decide_eq_true c5
         clear c5
         by_cases c6 : x5_1 < (l1.length : Int)
         · rw [if_pos c6] at H
           have c6b0 : decide (x5_1 < (l1.length : Int)) = true := decide_eq_true c6
           clear c6
           by_cases c7 : (rdOf ByteArray.empty l0 x5_1).toList = (rdOf ByteArray.empty l1 x5_1).toList
           · rw [if_pos c7] at H
             have c7b0 : ((rdOf ByteArray.empty l0 x5_1).toList == (rdOf ByteArray.empty l1 x5_1).toList) = true := beq_iff_eq.mpr c7
             have c7b1 : ((rdOf ByteArray.empty l0 x5_1).toList != (rdOf ByteArray.empty l1 x5_1).toList) = false := bne_eq_false_iff_eq.mpr c7
             clear c7
             have H' := zA_ H
             clear H
             have p507 : 0 ≤ (x5_1 : Int) := of_decide_eq_true βKb
             have q507 : x5_1 < (l0.length : Int) := of_decide_eq_true βKb
             obtain ⟨ad507, e507, hx507_0⟩ := Kd.at_string HR0.out x5_1 p507 q507
             cases e507
             replace p507 := eq_true p507
             replace q507 := eq_true q507
             have p508 : 0 ≤ (x5_1 : Int) := of_decide_eq_true βKb
             have q508 : x5_1 < (l1.length : Int) := of_decide_eq_true βKb
             obtain ⟨ad508, e508, hx508_0⟩ := Kd.at_string HR1.out x5_1 p508 q508
             cases e508
             replace p508 := eq_true p508
             replace q508 := eq_true q508
             go_wp2
             repeat (go_quiet (fail); try go_wp2)
             go_roundg k1
             case measure => have := HK1.out; omega
             case rel => exact ⟨(wrap64 (x5_1 + 1)), βLb, H', ⟨βOb⟩, βIb⟩
           · rw [if_neg c7] at H
             have c7b0 : ((rdOf ByteArray.empty l0 x5_1).toList == (rdOf ByteArray.empty l1 x5_1).toList) = false := beq_eq_false_iff_ne.mpr c7
             have c7b1 : ((rdOf ByteArray.empty l0 x5_1).toList != (rdOf ByteArray.empty l1 x5_1).toList) = true := bne_iff_ne.mpr c7
             obtain rfl := Option.some.inj H
             have p507 : 0 ≤ (x5_1 : Int) := of_decide_eq_true βKb
             have q507 : x5_1 < (l0.length : Int) := of_decide_eq_true βKb
             obtain ⟨ad507, e507, hx507_0⟩ := Kd.at_string HR0.out x5_1 p507 q507
             cases e507
             replace p507 := eq_true p507
             replace q507 := eq_true q507
             have p508 : 0 ≤ (x5_1 : Int) := of_decide_eq_true βKb
             have q508 : x5_1 < (l1.length : Int) := of_decide_eq_true βKb
             obtain ⟨ad508, e508, hx508_0⟩ := Kd.at_string HR1.out x5_1 p508 q508
             cases e508
             replace p508 := eq_true p508
             replace q508 := eq_true q508
             go_wp2
             repeat (go_quiet (fail); try go_wp2)
             go_ret
             exact ⟨βLb, βIb⟩
         · rw [if_neg c6] at H
           exact absurd H (by simp)
       · rw [if_neg c5] at H
         exact absurd H (by simp)
     · rw [if_neg c4] at H
       have c4b0 : decide (x5_1 < (l0.length : Int)) = false := decide_eq_false c4
       clear c4
       obtain rfl := Option.some.inj H
       go_wp2
       repeat (go_quiet (fail); try go_wp2)
       go_ret
       exact ⟨βLb, βIb⟩
 · rw [if_neg c3] at H
   have c3b0 : ((l0.length : Int) == (l1.length : Int)) = false := beq_eq_false_iff_ne.mpr c3
   have c3b1 : ((l0.length : Int) != (l1.length : Int)) = true := bne_iff_ne.mpr c3
   have c3b2 : (l0.length == l1.length) = false := by first | simpa using c3 | (simp at c3 ⊢; omega)
   obtain rfl := Option.some.inj H
   go_enter Try.func59, Try.ntmps59
   go_wp2
   repeat (go_quiet (fail); try go_wp2)
   go_ret
   exact ⟨βLb, βIb⟩
theorem eqA83 (d : Nat) (w : World) (x0 y0 : Int) (x1 y1 : ByteArray) :
 (Op.equalIn (d + 2) 83 (.agg #[.int .i64 x0, .string x1]) (.agg #[.int .i64 y0, .string y1])).run Try.prog w = .ok (x0 == y0 && (x1.toList == y1.toList)) w := by
 refine eqA_of Try.underlying83 βPb ?_
 refine eqf_cons (by rfl) (by go_simp; rfl) (by go_simp; rfl) (by go_simp) ?_
 exact eqf_last (by rfl) (by go_simp; rfl) (by go_simp; rfl) (by go_simp)
end Go.Proofs.Ytboobfpmmaaogaa.Q
namespace Go.Proofs.Ytboobfpmmaaogaa.Q
open Go.RowKit Go.Proofs.YtboobfpmmaaogaaW.PrintWords Go.Proofs.YtboobfpmmaaogaaW.PrintLast Go.Proofs.YtboobfpmmaaogaaW.PrintMore
attribute [local go_sem] max2_int min2_int max_two min_two max_three min_three max_four min_four Instr.field asAgg
set_option linter.unusedVariables false
set_option linter.unusedSimpArgs false
set_option maxHeartbeats 8000000
set_option maxRecDepth 100000
attribute [local go_sem high] eqA83
mutual
def laws_lwFlash.j0 : Nat → Bool → List ByteArray → List (S83) → List ByteArray → List (S83) → Option (Bool)
 | 0, _, _, _, _, _ => none
 | k + 1, x20, x510000, x510001, x511000, x511001 => if x20 = true then (some false) else (laws_lwFlash.l0 k 0 x510000 x510001 x511000 x511001)
def laws_lwFlash.l0 : Nat → Int → List ByteArray → List (S83) → List ByteArray → List (S83) → Option (Bool)
 | 0, _, _, _, _, _ => none
 | k + 1, x5, x510000, x510001, x511000, x511001 => if x5 < (x510001.length : Int) then (if 0 ≤ x5 then (if x5 < (x511001.length : Int) then (if (!(((rd_T83 x510001 x5).f0) == ((rd_T83 x511001 x5).f0)) || (!((((rd_T83 x510001 x5).f1).toList) == (((rd_T83 x511001 x5).f1).toList)))) = true then (some false) else (laws_lwFlash.l0 k (wrap64 (x5 + 1)) x510000 x510001 x511000 x511001)) else (none)) else (none)) else (some true)
end
def laws_lwFlash.f (k : Nat) (l0_0 : List ByteArray) (l0_1 : List (S83)) (l1_0 : List ByteArray) (l1_1 : List (S83)) : Option (Bool) := (laws_lwTexts.f k l0_0 l1_0).bind fun t511 => (if t511 = true then (laws_lwFlash.j0 k ((l0_1.length : Int) != (l1_1.length : Int)) l0_0 l0_1 l1_0 l1_1) else (laws_lwFlash.j0 k true l0_0 l0_1 l1_0 l1_1))
theorem laws_lwFlash.calls (k : Nat) (A0_0 : Option Addr) (c0_0 : Nat) (l0_0 : List ByteArray) (A0_1 : Option Addr) (c0_1 : Nat) (l0_1 : List (S83)) (A1_0 : Option Addr) (c1_0 : Nat) (l1_0 : List ByteArray) (A1_1 : Option Addr) (c1_1 : Nat) (l1_1 : List (S83)) (r : Bool) (w : World) (hr0_0 : Kd.C Kd.string w A0_0 l0_0.length l0_0) (hc0_0 : l0_0.length ≤ c0_0) (hr0_1 : Kd.C k83 w A0_1 l0_1.length l0_1) (hc0_1 : l0_1.length ≤ c0_1) (hr1_0 : Kd.C Kd.string w A1_0 l1_0.length l1_0) (hc1_0 : l1_0.length ≤ c1_0) (hr1_1 : Kd.C k83 w A1_1 l1_1.length l1_1) (hc1_1 : l1_1.length ≤ c1_1) (h : laws_lwFlash.f k l0_0 l0_1 l1_0 l1_1 = some r) :
 Calls Try.prog 15 #[.agg #[.slice A0_0 l0_0.length c0_0, .slice A0_1 l0_1.length c0_1], .agg #[.slice A1_0 l1_0.length c1_0, .slice A1_1 l1_1.length c1_1]] w fun e w' => e = .returned (.bool r) ∧ Below w.heap.size w w' := by
 have hu26 := Try.underlying26
 have hu83 := Try.underlying83
 have HR0_0 := zA_ hr0_0
 have HC0_0 := zA_ hc0_0
 clear hr0_0 hc0_0
 have HR0_1 := zA_ hr0_1
 have HC0_1 := zA_ hc0_1
 clear hr0_1 hc0_1
 have HR1_0 := zA_ hr1_0
 have HC1_0 := zA_ hc1_0
 clear hr1_0 hc1_0
 have HR1_1 := zA_ hr1_1
 have HC1_1 := zA_ hc1_1
 clear hr1_1 hc1_1
 have HB := zA_ (Below.refl w.heap.size w)
 have H : ((laws_lwTexts.f k l0_0 l1_0).bind fun t511 => (if t511 = true then (laws_lwFlash.j0 k ((l0_1.length : Int) != (l1_1.length : Int)) l0_0 l0_1 l1_0 l1_1) else (laws_lwFlash.j0 k true l0_0 l0_1 l1_0 l1_1))) = some r := h
 clear h
 have HC3 := zA_ H
 clear H
 go_enter Try.func15, Try.ntmps15
 go_upto_region 1 with (first | ((with_reducible refine gate_dst (N := 2) rfl ?_); (try (refine gate_guard (by rfl) ?_; dsimp only)); refine box_event ?hg (N := 2) ?hd (cs := #[.slice A0_0 l0_0.length c0_0, .slice A0_1 l0_1.length c0_1]) (t := 26) ?hr ?_; (case hd => exact (by rfl)); (case hg => exact (by rfl)); (case hr => exact βMb); intro gb509 hg w4 hbox hb; have BK509 := zA_ (hbox); have GW509 := zA_ ((by rw [hg]; exact (below_size (zh_ HB.out)) : w.heap.size ≤ gb509)); have GE509 := zA_ ((by rw [hg]; exact (below_size (zh_ HB.out)) : w.heap.size ≤ gb509)); replace HB := zA_ (below_step (zh_ HB.out) hb); clear hb hbox hg) | ((with_reducible refine gate_dst (N := 3) rfl ?_); (try (refine gate_guard (by rfl) ?_; dsimp only)); refine box_event ?hg (N := 3) ?hd (cs := #[.slice A1_0 l1_0.length c1_0, .slice A1_1 l1_1.length c1_1]) (t := 26) ?hr ?_; (case hd => exact (by rfl)); (case hg => exact (by rfl)); (case hr => exact βMb); intro gb510 hg w5 hbox hb; have BK510 := zA_ (hbox); have GW510 := zA_ ((by rw [hg]; exact (below_size (zg1_ HB.out GE509.out)) : w.heap.size ≤ gb510)); have GE510 := zA_ ((by rw [hg]; exact (below_size (zg1_ HB.out GE509.out)) : w.heap.size ≤ gb510)); replace HB := zA_ (below_step (zg1_ HB.out GE509.out) hb); have NB509_510 := zA_ ((by rw [hg]; exact Nat.ne_of_lt (blk_lt (g := gb509) (o := .cells #[.slice A0_0 l0_0.length c0_0, .slice A0_1 l0_1.length c0_1] 26 (0, 0)) (zb_ BK509.out)) : gb509 ≠ gb510)); have NB510_509 := zA_ ((by rw [hg]; exact Nat.ne_of_gt (blk_lt (g := gb509) (o := .cells #[.slice A0_0 l0_0.length c0_0, .slice A0_1 l0_1.length c0_1] 26 (0, 0)) (zb_ BK509.out)) : gb510 ≠ gb509)); replace BK509 := zB_ BK509.out hb; clear hb hbox hg))
 repeat (go_quiet (first | ((with_reducible refine gate_dst (N := 2) rfl ?_); (try (refine gate_guard (by rfl) ?_; dsimp only)); refine box_event ?hg (N := 2) ?hd (cs := #[.slice A0_0 l0_0.length c0_0, .slice A0_1 l0_1.length c0_1]) (t := 26) ?hr ?_; (case hd => exact (by rfl)); (case hg => exact (by rfl)); (case hr => exact βMb); intro gb509 hg w4 hbox hb; have BK509 := zA_ (hbox); have GW509 := zA_ ((by rw [hg]; exact (below_size (zh_ HB.out)) : w.heap.size ≤ gb509)); have GE509 := zA_ ((by rw [hg]; exact (below_size (zh_ HB.out)) : w.heap.size ≤ gb509)); replace HB := zA_ (below_step (zh_ HB.out) hb); clear hb hbox hg) | ((with_reducible refine gate_dst (N := 3) rfl ?_); (try (refine gate_guard (by rfl) ?_; dsimp only)); refine box_event ?hg (N := 3) ?hd (cs := #[.slice A1_0 l1_0.length c1_0, .slice A1_1 l1_1.length c1_1]) (t := 26) ?hr ?_; (case hd => exact (by rfl)); (case hg => exact (by rfl)); (case hr => exact βMb); intro gb510 hg w5 hbox hb; have BK510 := zA_ (hbox); have GW510 := zA_ ((by rw [hg]; exact (below_size (zg1_ HB.out GE509.out)) : w.heap.size ≤ gb510)); have GE510 := zA_ ((by rw [hg]; exact (below_size (zg1_ HB.out GE509.out)) : w.heap.size ≤ gb510)); replace HB := zA_ (below_step (zg1_ HB.out GE509.out) hb); have NB509_510 := zA_ ((by rw [hg]; exact Nat.ne_of_lt (blk_lt (g := gb509) (o := .cells #[.slice A0_0 l0_0.length c0_0, .slice A0_1 l0_1.length c0_1] 26 (0, 0)) (zb_ BK509.out)) : gb509 ≠ gb510)); have NB510_509 := zA_ ((by rw [hg]; exact Nat.ne_of_gt (blk_lt (g := gb509) (o := .cells #[.slice A0_0 l0_0.length c0_0, .slice A0_1 l0_1.length c0_1] 26 (0, 0)) (zb_ BK509.out)) : gb510 ≠ gb509)); replace BK509 := zB_ BK509.out hb; clear hb hbox hg)); go_upto_region 1 with (first | ((with_reducible refine gate_dst (N := 2) rfl ?_); (try (refine gate_guard (by rfl) ?_; dsimp only)); refine box_event ?hg (N := 2) ?hd (cs := #[.slice A0_0 l0_0.length c0_0, .slice A0_1 l0_1.length c0_1]) (t := 26) ?hr ?_; (case hd => exact (by rfl)); (case hg => exact (by rfl)); (case hr => exact βMb); intro gb509 hg w4 hbox hb; have BK509 := zA_ (hbox); have GW509 := zA_ ((by rw [hg]; exact (below_size (zh_ HB.out)) : w.heap.size ≤ gb509)); have GE509 := zA_ ((by rw [hg]; exact (below_size (zh_ HB.out)) : w.heap.size ≤ gb509)); replace HB := zA_ (below_step (zh_ HB.out) hb); clear hb hbox hg) | ((with_reducible refine gate_dst (N := 3) rfl ?_); (try (refine gate_guard (by rfl) ?_; dsimp only)); refine box_event ?hg (N := 3) ?hd (cs := #[.slice A1_0 l1_0.length c1_0, .slice A1_1 l1_1.length c1_1]) (t := 26) ?hr ?_; (case hd => exact (by rfl)); (case hg => exact (by rfl)); (case hr => exact βMb); intro gb510 hg w5 hbox hb; have BK510 := zA_ (hbox); have GW510 := zA_ ((by rw [hg]; exact (below_size (zg1_ HB.out GE509.out)) : w.heap.size ≤ gb510)); have GE510 := zA_ ((by rw [hg]; exact (below_size (zg1_ HB.out GE509.out)) : w.heap.size ≤ gb510)); replace HB := zA_ (below_step (zg1_ HB.out GE509.out) hb); have NB509_510 := zA_ ((by rw [hg]; exact Nat.ne_of_lt (blk_lt (g := gb509) (o := .cells #[.slice A0_0 l0_0.length c0_0, .slice A0_1 l0_1.length c0_1] 26 (0, 0)) (zb_ BK509.out)) : gb509 ≠ gb510)); have NB510_509 := zA_ ((by rw [hg]; exact Nat.ne_of_gt (blk_lt (g := gb509) (o := .cells #[.slice A0_0 l0_0.length c0_0, .slice A0_1 l0_1.length c0_1] 26 (0, 0)) (zb_ BK509.out)) : gb510 ≠ gb509)); replace BK509 := zB_ BK509.out hb; clear hb hbox hg)))
 (try simp only [Act.put, List.setIfInBounds_toArray, List.set_cons_zero, List.set_cons_succ])
 go_cut [20] (fun v20 wc => ∃ (kq : Nat) (x20_2 : Bool), v20 = .bool x20_2 ∧ Aside0 (laws_lwFlash.j0 kq x20_2 l0_0 l0_1 l1_0 l1_1 = some r) ∧ Aside0 (kq ≤ k) ∧ Aside0 (wc.heap[gb509]? = some (.cells #[(.slice A0_0 l0_0.length c0_0), (.slice A0_1 l0_1.length c0_1)] 26 (0, 0))) ∧ Aside0 (wc.heap[gb510]? = some (.cells #[(.slice A1_0 l1_0.length c1_0), (.slice A1_1 l1_1.length c1_1)] 26 (0, 0))) ∧ Aside0 (Below w.heap.size w wc))
 case first =>
  have H := HC3.out
  clear HC3
  replace H := Option.bind_eq_some_iff.mp H
  obtain ⟨t511, A60, H⟩ := H
  (try dsimp -simprocs only at H)
  have A6 := zA_ A60
  clear A60
  by_cases c7 : t511 = true
  · subst c7
    have H1 : (laws_lwFlash.j0 k ((l0_1.length : Int) != (l1_1.length : Int)) l0_0 l0_1 l1_0 l1_1) = some r := by rw [if_pos rfl] at H; exact H
    clear H
    have H := H1
    clear H1
    have H' := zA_ H
    clear H
    have hnb8 := NB509_510.out
    have hnc8 := NB510_509.out
    have hcz9_0 := cz_ BK509.out 0 (.slice A0_0 l0_0.length c0_0) rfl
    have hcz9_1 := cz_ BK509.out 1 (.slice A0_1 l0_1.length c0_1) rfl
    have hfz9_0 := blk_frozen BK509.out 0
    have hfz9_1 := blk_frozen BK509.out 1
    have hcz10_0 := cz_ BK510.out 0 (.slice A1_0 l1_0.length c1_0) rfl
    have hcz10_1 := cz_ BK510.out 1 (.slice A1_1 l1_1.length c1_1) rfl
    have hfz10_0 := blk_frozen BK510.out 0
    have hfz10_1 := blk_frozen BK510.out 1
    go_wp2_with (first | (go_at_call 59; (with_reducible refine (laws_lwTexts.calls k _ _ l0_0 _ _ l1_0 true _ ?side1 ?side2 ?side3 ?side4 A6.out).mono ?_); (case side1 => exact zc_ (Kd.C_below HR0_0.out HB.out)); (case side2 => exact HC0_0.out); (case side3 => exact zc_ (Kd.C_below HR1_0.out HB.out)); (case side4 => exact HC1_0.out); rintro e w' ⟨rfl, ⟨nd, rfl⟩⟩; (try exact βzb)))
    repeat (go_quiet (first | (go_at_call 59; (with_reducible refine (laws_lwTexts.calls k _ _ l0_0 _ _ l1_0 true _ ?side1 ?side2 ?side3 ?side4 A6.out).mono ?_); (case side1 => exact zc_ (Kd.C_below HR0_0.out HB.out)); (case side2 => exact HC0_0.out); (case side3 => exact zc_ (Kd.C_below HR1_0.out HB.out)); (case side4 => exact HC1_0.out); rintro e w' ⟨rfl, ⟨nd, rfl⟩⟩; (try exact βzb))); try go_wp2_with (first | (go_at_call 59; (with_reducible refine (laws_lwTexts.calls k _ _ l0_0 _ _ l1_0 true _ ?side1 ?side2 ?side3 ?side4 A6.out).mono ?_); (case side1 => exact zc_ (Kd.C_below HR0_0.out HB.out)); (case side2 => exact HC0_0.out); (case side3 => exact zc_ (Kd.C_below HR1_0.out HB.out)); (case side4 => exact HC1_0.out); rintro e w' ⟨rfl, ⟨nd, rfl⟩⟩; (try exact βzb))))
    go_meet
    case rel => exact ⟨_, (((l0_1.length : Int) != (l1_1.length : Int))), βLb, H', ⟨βNb⟩, ⟨zb_ BK509.out⟩, ⟨zb_ BK510.out⟩, ⟨zg2_ HB.out GE509.out GE510.out⟩⟩
  · replace c7 := Bool.eq_false_iff.mpr c7
    subst c7
    have H1 : (laws_lwFlash.j0 k true l0_0 l0_1 l1_0 l1_1) = some r := by rw [if_neg (show ¬ (false = true) by decide)] at H; exact H
    clear H
    have H := H1
    clear H1
    have H' := zA_ H
    clear H
    have hnb11 := NB509_510.out
    have hnc11 := NB510_509.out
    have hcz12_0 := cz_ BK509.out 0 (.slice A0_0 l0_0.length c0_0) rfl
    have hcz12_1 := cz_ BK509.out 1 (.slice A0_1 l0_1.length c0_1) rfl
    have hfz12_0 := blk_frozen BK509.out 0
    have hfz12_1 := blk_frozen BK509.out 1
    have hcz13_0 := cz_ BK510.out 0 (.slice A1_0 l1_0.length c1_0) rfl
    have hcz13_1 := cz_ BK510.out 1 (.slice A1_1 l1_1.length c1_1) rfl
    have hfz13_0 := blk_frozen BK510.out 0
    have hfz13_1 := blk_frozen BK510.out 1
    go_wp2_with (first | (go_at_call 59; (with_reducible refine (laws_lwTexts.calls k _ _ l0_0 _ _ l1_0 false _ ?side1 ?side2 ?side3 ?side4 A6.out).mono ?_); (case side1 => exact zc_ (Kd.C_below HR0_0.out HB.out)); (case side2 => exact HC0_0.out); (case side3 => exact zc_ (Kd.C_below HR1_0.out HB.out)); (case side4 => exact HC1_0.out); rintro e w' ⟨rfl, ⟨nd, rfl⟩⟩; (try exact βzb)))
    repeat (go_quiet (first | (go_at_call 59; (with_reducible refine (laws_lwTexts.calls k _ _ l0_0 _ _ l1_0 false _ ?side1 ?side2 ?side3 ?side4 A6.out).mono ?_); (case side1 => exact zc_ (Kd.C_below HR0_0.out HB.out)); (case side2 => exact HC0_0.out); (case side3 => exact zc_ (Kd.C_below HR1_0.out HB.out)); (case side4 => exact HC1_0.out); rintro e w' ⟨rfl, ⟨nd, rfl⟩⟩; (try exact βzb))); try go_wp2_with (first | (go_at_call 59; (with_reducible refine (laws_lwTexts.calls k _ _ l0_0 _ _ l1_0 false _ ?side1 ?side2 ?side3 ?side4 A6.out).mono ?_); (case side1 => exact zc_ (Kd.C_below HR0_0.out HB.out)); (case side2 => exact HC0_0.out); (case side3 => exact zc_ (Kd.C_below HR1_0.out HB.out)); (case side4 => exact HC1_0.out); rintro e w' ⟨rfl, ⟨nd, rfl⟩⟩; (try exact βzb))))
    go_meet
    case rel => exact ⟨_, (true), βLb, H', ⟨βNb⟩, ⟨zb_ BK509.out⟩, ⟨zb_ BK510.out⟩, ⟨zg2_ HB.out GE509.out GE510.out⟩⟩
 case rest =>
  clear HC3
  try clear c1
  try clear p2
  try clear c7
  try clear c8
  try clear c11
  try clear hcz10_0
  try clear hcz10_1
  try clear hcz12_0
  try clear hcz12_1
  try clear hcz13_0
  try clear hcz13_1
  try clear hcz9_0
  try clear hcz9_1
  try clear hfz10_0
  try clear hfz10_1
  try clear hfz12_0
  try clear hfz12_1
  try clear hfz13_0
  try clear hfz13_1
  try clear hfz9_0
  try clear hfz9_1
  obtain ⟨kq, x20_2, rfl, HA, HJ2, BK509, BK510, HB⟩ := hcut
  cases kq with
  | zero => exact absurd HA.out (by simp [laws_lwFlash.j0])
  | succ kj2 =>
   have H := HA.out
   clear HA
   simp only [laws_lwFlash.j0] at H
   by_cases c14 : x20_2 = true
   · subst c14
     have H1 : (some false) = some r := by rw [if_pos rfl] at H; exact H
     clear H
     have H := H1
     clear H1
     obtain rfl := Option.some.inj H
     go_wp2
     repeat (go_quiet (fail); try go_wp2)
     go_ret
     exact ⟨βFb, βeb⟩
   · replace c14 := Bool.eq_false_iff.mpr c14
     subst c14
     have H1 : (laws_lwFlash.l0 kj2 0 l0_0 l0_1 l1_0 l1_1) = some r := by rw [if_neg (show ¬ (false = true) by decide)] at H; exact H
     clear H
     have H := H1
     clear H1
     have H' := zA_ H
     clear H
     go_wp2
     repeat (go_quiet (fail); try go_wp2)
     go_loopg [5] kj2 (fun kq v5 w' => ∃ (x5_2 : Int), v5 = .int .i64 x5_2 ∧ Aside0 (laws_lwFlash.l0 kq x5_2 l0_0 l0_1 l1_0 l1_1 = some r) ∧ Aside0 (kq ≤ kj2) ∧ Aside0 (w'.heap[gb509]? = some (.cells #[(.slice A0_0 l0_0.length c0_0), (.slice A0_1 l0_1.length c0_1)] 26 (0, 0))) ∧ Aside0 (w'.heap[gb510]? = some (.cells #[(.slice A1_0 l1_0.length c1_0), (.slice A1_1 l1_1.length c1_1)] 26 (0, 0))) ∧ Aside0 (Below w.heap.size w w'))
     case atStart => exact ⟨(0), βLb, H', ⟨Nat.le_refl _⟩, ⟨zb_ BK509.out⟩, ⟨zb_ BK510.out⟩, ⟨zg2_ HB.out GE509.out GE510.out⟩⟩
     case round =>
      clear H'
      try clear c1
      try clear p2
      try clear c7
      try clear c8
      try clear c11
      try clear c14
      try clear hcz10_0
      try clear hcz10_1
      try clear hcz12_0
      try clear hcz12_1
      try clear hcz13_0
      try clear hcz13_1
      try clear hcz9_0
      try clear hcz9_1
      try clear hfz10_0
      try clear hfz10_1
      try clear hfz12_0
      try clear hfz12_1
      try clear hfz13_0
      try clear hfz13_1
      try clear hfz9_0
      try clear hfz9_1
      try clear p2
      obtain ⟨x5_2, rfl, HA, HK2, BK509, BK510, HB⟩ := hrel
      cases gk with
      | zero => exact absurd HA.out (by simp [laws_lwFlash.l0])
      | succ k2 =>
       have H := HA.out
       clear HA
       simp only [laws_lwFlash.l0] at H
       by_cases c15 : x5_2 < (l0_1.length : Int)
       · rw [if_pos c15] at H
         have c15b0 : decide (x5_2 < (l0_1.length : Int)) = true := decide_eq_true c15
         clear c15
         by_cases c16 : 0 ≤ x5_2
         · rw [if_pos c16] at H
           have c16b0 : decide (0 ≤ x5_2) = true := decide_eq_true c16
           clear c16
           by_cases c17 : x5_2 < (l1_1.length : Int)
           · rw [if_pos c17] at H
             have c17b0 : decide (x5_2 < (l1_1.length : Int)) = true := decide_eq_true c17
             clear c17
             by_cases c18 : (!(((rd_T83 l0_1 x5_2).f0) == ((rd_T83 l1_1 x5_2).f0)) || (!((((rd_T83 l0_1 x5_2).f1).toList) == (((rd_T83 l1_1 x5_2).f1).toList)))) = true
             · rw [if_pos c18] at H
               have c18b0 : (!(((rd_T83 l0_1 x5_2).f0) == ((rd_T83 l1_1 x5_2).f0)) || (!((((rd_T83 l0_1 x5_2).f1).toList) == (((rd_T83 l1_1 x5_2).f1).toList)))) = true := c18
               clear c18
               obtain rfl := Option.some.inj H
               have hnb19 := NB509_510.out
               have hnc19 := NB510_509.out
               have hcz20_0 := cz_ BK509.out 0 (.slice A0_0 l0_0.length c0_0) rfl
               have hcz20_1 := cz_ BK509.out 1 (.slice A0_1 l0_1.length c0_1) rfl
               have hfz20_0 := blk_frozen BK509.out 0
               have hfz20_1 := blk_frozen BK509.out 1
               have p512 : 0 ≤ (x5_2 : Int) := of_decide_eq_true βKb
               have q512 : x5_2 < (l0_1.length : Int) := of_decide_eq_true βKb
               obtain ⟨ad512, e512, hx512_0, hx512_1⟩ := at_T83 HR0_1.out x5_2 p512 q512
               cases e512
               replace hx512_0 := bc_ HB.out hx512_0
               replace hx512_1 := bc_ HB.out hx512_1
               replace p512 := eq_true p512
               replace q512 := eq_true q512
               have hcz21_0 := cz_ BK510.out 0 (.slice A1_0 l1_0.length c1_0) rfl
               have hcz21_1 := cz_ BK510.out 1 (.slice A1_1 l1_1.length c1_1) rfl
               have hfz21_0 := blk_frozen BK510.out 0
               have hfz21_1 := blk_frozen BK510.out 1
               have p513 : 0 ≤ (x5_2 : Int) := of_decide_eq_true βKb
               have q513 : x5_2 < (l1_1.length : Int) := of_decide_eq_true βKb
               obtain ⟨ad513, e513, hx513_0, hx513_1⟩ := at_T83 HR1_1.out x5_2 p513 q513
               cases e513
               replace hx513_0 := bc_ HB.out hx513_0
               replace hx513_1 := bc_ HB.out hx513_1
               replace p513 := eq_true p513
               replace q513 := eq_true q513
               go_wp2
               repeat (go_quiet (fail); try go_wp2)
               go_ret
               exact ⟨βFb, βeb⟩
             · rw [if_neg c18] at H
               have c18b0 : (!(((rd_T83 l0_1 x5_2).f0) == ((rd_T83 l1_1 x5_2).f0)) || (!((((rd_T83 l0_1 x5_2).f1).toList) == (((rd_T83 l1_1 x5_2).f1).toList)))) = false := by simpa using c18
               clear c18
               have H' := zA_ H
               clear H
               have hnb22 := NB509_510.out
               have hnc22 := NB510_509.out
               have hcz23_0 := cz_ BK509.out 0 (.slice A0_0 l0_0.length c0_0) rfl
               have hcz23_1 := cz_ BK509.out 1 (.slice A0_1 l0_1.length c0_1) rfl
               have hfz23_0 := blk_frozen BK509.out 0
               have hfz23_1 := blk_frozen BK509.out 1
               have p512 : 0 ≤ (x5_2 : Int) := of_decide_eq_true βKb
               have q512 : x5_2 < (l0_1.length : Int) := of_decide_eq_true βKb
               obtain ⟨ad512, e512, hx512_0, hx512_1⟩ := at_T83 HR0_1.out x5_2 p512 q512
               cases e512
               replace hx512_0 := bc_ HB.out hx512_0
               replace hx512_1 := bc_ HB.out hx512_1
               replace p512 := eq_true p512
               replace q512 := eq_true q512
               have hcz24_0 := cz_ BK510.out 0 (.slice A1_0 l1_0.length c1_0) rfl
               have hcz24_1 := cz_ BK510.out 1 (.slice A1_1 l1_1.length c1_1) rfl
               have hfz24_0 := blk_frozen BK510.out 0
               have hfz24_1 := blk_frozen BK510.out 1
               have p513 : 0 ≤ (x5_2 : Int) := of_decide_eq_true βKb
               have q513 : x5_2 < (l1_1.length : Int) := of_decide_eq_true βKb
               obtain ⟨ad513, e513, hx513_0, hx513_1⟩ := at_T83 HR1_1.out x5_2 p513 q513
               cases e513
               replace hx513_0 := bc_ HB.out hx513_0
               replace hx513_1 := bc_ HB.out hx513_1
               replace p513 := eq_true p513
               replace q513 := eq_true q513
               go_wp2
               repeat (go_quiet (fail); try go_wp2)
               go_roundg k2
               case measure => have := HJ2.out; have := HK2.out; omega
               case rel => exact ⟨(wrap64 (x5_2 + 1)), βLb, H', ⟨(by have := HJ2.out; have := HK2.out; omega)⟩, ⟨zb_ BK509.out⟩, ⟨zb_ BK510.out⟩, ⟨zg2_ HB.out GE509.out GE510.out⟩⟩
           · rw [if_neg c17] at H
             exact absurd H (by simp)
         · rw [if_neg c16] at H
           exact absurd H (by simp)
       · rw [if_neg c15] at H
         have c15b0 : decide (x5_2 < (l0_1.length : Int)) = false := decide_eq_false c15
         clear c15
         obtain rfl := Option.some.inj H
         have hnb25 := NB509_510.out
         have hnc25 := NB510_509.out
         have hcz26_0 := cz_ BK509.out 0 (.slice A0_0 l0_0.length c0_0) rfl
         have hcz26_1 := cz_ BK509.out 1 (.slice A0_1 l0_1.length c0_1) rfl
         have hfz26_0 := blk_frozen BK509.out 0
         have hfz26_1 := blk_frozen BK509.out 1
         go_wp2
         repeat (go_quiet (fail); try go_wp2)
         go_ret
         exact ⟨βFb, βeb⟩
def laws_lwFlashes.f (k : Nat) (l0_0 : List ByteArray) (l0_1 : List (S83)) (a0_2 : ByteArray) (a0_3 : Int) (l1_0 : List ByteArray) (l1_1 : List (S83)) (a1_2 : ByteArray) (a1_3 : Int) : Option (Bool) := if a0_3 = a1_3 then (if a0_2.toList = a1_2.toList then ((laws_lwFlash.f k l0_0 l0_1 l1_0 l1_1).bind fun t516 => (if t516 = true then (if a0_3 = 0 then ((spec_FlashRight.f k l0_0 l0_1).bind fun t517 => (some t517)) else (some true)) else (some false))) else (some false)) else (some false)
theorem laws_lwFlashes.calls (k : Nat) (A0_0 : Option Addr) (c0_0 : Nat) (l0_0 : List ByteArray) (A0_1 : Option Addr) (c0_1 : Nat) (l0_1 : List (S83)) (a0_2 : ByteArray) (a0_3 : Int) (A1_0 : Option Addr) (c1_0 : Nat) (l1_0 : List ByteArray) (A1_1 : Option Addr) (c1_1 : Nat) (l1_1 : List (S83)) (a1_2 : ByteArray) (a1_3 : Int) (r : Bool) (w : World) (hr0_0 : Kd.C Kd.string w A0_0 l0_0.length l0_0) (hc0_0 : l0_0.length ≤ c0_0) (hr0_1 : Kd.C k83 w A0_1 l0_1.length l0_1) (hc0_1 : l0_1.length ≤ c0_1) (hr1_0 : Kd.C Kd.string w A1_0 l1_0.length l1_0) (hc1_0 : l1_0.length ≤ c1_0) (hr1_1 : Kd.C k83 w A1_1 l1_1.length l1_1) (hc1_1 : l1_1.length ≤ c1_1) (h : laws_lwFlashes.f k l0_0 l0_1 a0_2 a0_3 l1_0 l1_1 a1_2 a1_3 = some r) :
 Calls Try.prog 13 #[.agg #[.slice A0_0 l0_0.length c0_0, .slice A0_1 l0_1.length c0_1, .string a0_2, .int .i64 a0_3], .agg #[.slice A1_0 l1_0.length c1_0, .slice A1_1 l1_1.length c1_1, .string a1_2, .int .i64 a1_3]] w fun e w' => e = .returned (.bool r) ∧ Below w.heap.size w w' := by
 have hu30 := Try.underlying30
 have hu26 := Try.underlying26
 have HR0_0 := zA_ hr0_0
 have HC0_0 := zA_ hc0_0
 clear hr0_0 hc0_0
 have HR0_1 := zA_ hr0_1
 have HC0_1 := zA_ hc0_1
 clear hr0_1 hc0_1
 have HR1_0 := zA_ hr1_0
 have HC1_0 := zA_ hc1_0
 clear hr1_0 hc1_0
 have HR1_1 := zA_ hr1_1
 have HC1_1 := zA_ hc1_1
 clear hr1_1 hc1_1
 have HB := zA_ (Below.refl w.heap.size w)
 have H : (if a0_3 = a1_3 then (if a0_2.toList = a1_2.toList then ((laws_lwFlash.f k l0_0 l0_1 l1_0 l1_1).bind fun t516 => (if t516 = true then (if a0_3 = 0 then ((spec_FlashRight.f k l0_0 l0_1).bind fun t517 => (some t517)) else (some true)) else (some false))) else (some false)) else (some false)) = some r := h
 clear h
 by_cases c3 : a0_3 = a1_3
 · rw [if_pos c3] at H
   have c3b0 : (a0_3 == a1_3) = true := beq_iff_eq.mpr c3
   have c3b1 : (a0_3 != a1_3) = false := bne_eq_false_iff_eq.mpr c3
   clear c3
   by_cases c4 : a0_2.toList = a1_2.toList
   · rw [if_pos c4] at H
     have c4b0 : (a0_2.toList == a1_2.toList) = true := beq_iff_eq.mpr c4
     have c4b1 : (a0_2.toList != a1_2.toList) = false := bne_eq_false_iff_eq.mpr c4
     clear c4
     replace H := Option.bind_eq_some_iff.mp H
     obtain ⟨t516, A50, H⟩ := H
     (try dsimp -simprocs only at H)
     have A5 := zA_ A50
     clear A50
     by_cases c6 : t516 = true
     · subst c6
       have H1 : (if a0_3 = 0 then ((spec_FlashRight.f k l0_0 l0_1).bind fun t517 => (some t517)) else (some true)) = some r := by rw [if_pos rfl] at H; exact H
       clear H
       have H := H1
       clear H1
       by_cases c7 : a0_3 = 0
       · rw [if_pos c7] at H
         have c7b0 : (a0_3 == 0) = true := beq_iff_eq.mpr c7
         have c7b1 : (a0_3 != 0) = false := bne_eq_false_iff_eq.mpr c7
         clear c7
         replace H := Option.bind_eq_some_iff.mp H
         obtain ⟨t517, A80, H⟩ := H
         (try dsimp -simprocs only at H)
         have A8 := zA_ A80
         clear A80
         obtain rfl := Option.some.inj H
         go_enter Try.func13, Try.ntmps13
         go_wp2_with (first | ((with_reducible refine gate_dst (N := 2) rfl ?_); refine box_event ?hg (N := 2) ?hd (cs := #[.slice A0_0 l0_0.length c0_0, .slice A0_1 l0_1.length c0_1, .string a0_2, .int .i64 a0_3]) (t := 30) ?hr ?_; (case hd => exact (by rfl)); (case hg => exact (by rfl)); (case hr => exact βMb); intro gb514 hg w9 hbox hb; have BK514 := zA_ (hbox); have GW514 := zA_ ((by rw [hg]; exact (below_size (zh_ HB.out)) : w.heap.size ≤ gb514)); have GE514 := zA_ ((by rw [hg]; exact (below_size (zh_ HB.out)) : w.heap.size ≤ gb514)); replace HB := zA_ (below_step (zh_ HB.out) hb); clear hb hbox hg) | ((with_reducible refine gate_dst (N := 3) rfl ?_); refine box_event ?hg (N := 3) ?hd (cs := #[.slice A1_0 l1_0.length c1_0, .slice A1_1 l1_1.length c1_1, .string a1_2, .int .i64 a1_3]) (t := 30) ?hr ?_; (case hd => exact (by rfl)); (case hg => exact (by rfl)); (case hr => exact βMb); intro gb515 hg w10 hbox hb; have BK515 := zA_ (hbox); have GW515 := zA_ ((by rw [hg]; exact (below_size (zg1_ HB.out GE514.out)) : w.heap.size ≤ gb515)); have GE515 := zA_ ((by rw [hg]; exact (below_size (zg1_ HB.out GE514.out)) : w.heap.size ≤ gb515)); replace HB := zA_ (below_step (zg1_ HB.out GE514.out) hb); have NB514_515 := zA_ ((by rw [hg]; exact Nat.ne_of_lt (blk_lt (g := gb514) (o := .cells #[.slice A0_0 l0_0.length c0_0, .slice A0_1 l0_1.length c0_1, .string a0_2, .int .i64 a0_3] 30 (0, 0)) (zb_ BK514.out)) : gb514 ≠ gb515)); have NB515_514 := zA_ ((by rw [hg]; exact Nat.ne_of_gt (blk_lt (g := gb514) (o := .cells #[.slice A0_0 l0_0.length c0_0, .slice A0_1 l0_1.length c0_1, .string a0_2, .int .i64 a0_3] 30 (0, 0)) (zb_ BK514.out)) : gb515 ≠ gb514)); replace BK514 := zB_ BK514.out hb; clear hb hbox hg; have hnb11 := NB514_515.out; have hnc11 := NB515_514.out; have hcz12_0 := cz_ BK514.out 0 (.slice A0_0 l0_0.length c0_0) rfl; have hcz12_1 := cz_ BK514.out 1 (.slice A0_1 l0_1.length c0_1) rfl; have hcz12_2 := cz_ BK514.out 2 (.string a0_2) rfl; have hcz12_3 := cz_ BK514.out 3 (.int .i64 a0_3) rfl; have hfz12_0 := blk_frozen BK514.out 0; have hfz12_1 := blk_frozen BK514.out 1; have hfz12_2 := blk_frozen BK514.out 2; have hfz12_3 := blk_frozen BK514.out 3; have hcz13_0 := cz_ BK515.out 0 (.slice A1_0 l1_0.length c1_0) rfl; have hcz13_1 := cz_ BK515.out 1 (.slice A1_1 l1_1.length c1_1) rfl; have hcz13_2 := cz_ BK515.out 2 (.string a1_2) rfl; have hcz13_3 := cz_ BK515.out 3 (.int .i64 a1_3) rfl; have hfz13_0 := blk_frozen BK515.out 0; have hfz13_1 := blk_frozen BK515.out 1; have hfz13_2 := blk_frozen BK515.out 2; have hfz13_3 := blk_frozen BK515.out 3) | (go_at_call 15; (with_reducible refine (laws_lwFlash.calls k _ _ l0_0 _ _ l0_1 _ _ l1_0 _ _ l1_1 true _ ?side1 ?side2 ?side3 ?side4 ?side5 ?side6 ?side7 ?side8 A5.out).mono ?_); (case side1 => exact zc_ (Kd.C_below HR0_0.out HB.out)); (case side2 => exact HC0_0.out); (case side3 => exact zc_ (Kd.C_below HR0_1.out HB.out)); (case side4 => exact HC0_1.out); (case side5 => exact zc_ (Kd.C_below HR1_0.out HB.out)); (case side6 => exact HC1_0.out); (case side7 => exact zc_ (Kd.C_below HR1_1.out HB.out)); (case side8 => exact HC1_1.out); rintro e w14 ⟨rfl, hb⟩; replace BK514 := zB_ BK514.out hb; replace BK515 := zB_ BK515.out hb; replace HB := zA_ (below_step (zg2_ HB.out GE514.out GE515.out) hb); (try clear hb); (try clear hb2); (try clear hk); (try clear hi); have hcz15_0 := cz_ BK514.out 0 (.slice A0_0 l0_0.length c0_0) rfl; have hcz15_1 := cz_ BK514.out 1 (.slice A0_1 l0_1.length c0_1) rfl; have hcz15_2 := cz_ BK514.out 2 (.string a0_2) rfl; have hcz15_3 := cz_ BK514.out 3 (.int .i64 a0_3) rfl; have hfz15_0 := blk_frozen BK514.out 0; have hfz15_1 := blk_frozen BK514.out 1; have hfz15_2 := blk_frozen BK514.out 2; have hfz15_3 := blk_frozen BK514.out 3) | (go_at_call 25; (with_reducible refine (spec_FlashRight.calls k _ _ l0_0 _ _ l0_1 t517 _ ?side1 ?side2 ?side3 ?side4 A8.out).mono ?_); (case side1 => exact zc_ (Kd.C_below HR0_0.out HB.out)); (case side2 => exact HC0_0.out); (case side3 => exact zc_ (Kd.C_below HR0_1.out HB.out)); (case side4 => exact HC0_1.out); rintro e w16 ⟨rfl, hb⟩; replace BK514 := zB_ BK514.out hb; replace BK515 := zB_ BK515.out hb; replace HB := zA_ (below_step (zg2_ HB.out GE514.out GE515.out) hb); (try clear hb); (try clear hb2); (try clear hk); (try clear hi)))
         go_ret
         exact ⟨βFb, βfb⟩
       · rw [if_neg c7] at H
         have c7b0 : (a0_3 == 0) = false := beq_eq_false_iff_ne.mpr c7
         have c7b1 : (a0_3 != 0) = true := bne_iff_ne.mpr c7
         obtain rfl := Option.some.inj H
         go_enter Try.func13, Try.ntmps13
         go_wp2_with (first | ((with_reducible refine gate_dst (N := 2) rfl ?_); refine box_event ?hg (N := 2) ?hd (cs := #[.slice A0_0 l0_0.length c0_0, .slice A0_1 l0_1.length c0_1, .string a0_2, .int .i64 a0_3]) (t := 30) ?hr ?_; (case hd => exact (by rfl)); (case hg => exact (by rfl)); (case hr => exact βMb); intro gb514 hg w17 hbox hb; have BK514 := zA_ (hbox); have GW514 := zA_ ((by rw [hg]; exact (below_size (zh_ HB.out)) : w.heap.size ≤ gb514)); have GE514 := zA_ ((by rw [hg]; exact (below_size (zh_ HB.out)) : w.heap.size ≤ gb514)); replace HB := zA_ (below_step (zh_ HB.out) hb); clear hb hbox hg) | ((with_reducible refine gate_dst (N := 3) rfl ?_); refine box_event ?hg (N := 3) ?hd (cs := #[.slice A1_0 l1_0.length c1_0, .slice A1_1 l1_1.length c1_1, .string a1_2, .int .i64 a1_3]) (t := 30) ?hr ?_; (case hd => exact (by rfl)); (case hg => exact (by rfl)); (case hr => exact βMb); intro gb515 hg w18 hbox hb; have BK515 := zA_ (hbox); have GW515 := zA_ ((by rw [hg]; exact (below_size (zg1_ HB.out GE514.out)) : w.heap.size ≤ gb515)); have GE515 := zA_ ((by rw [hg]; exact (below_size (zg1_ HB.out GE514.out)) : w.heap.size ≤ gb515)); replace HB := zA_ (below_step (zg1_ HB.out GE514.out) hb); have NB514_515 := zA_ ((by rw [hg]; exact Nat.ne_of_lt (blk_lt (g := gb514) (o := .cells #[.slice A0_0 l0_0.length c0_0, .slice A0_1 l0_1.length c0_1, .string a0_2, .int .i64 a0_3] 30 (0, 0)) (zb_ BK514.out)) : gb514 ≠ gb515)); have NB515_514 := zA_ ((by rw [hg]; exact Nat.ne_of_gt (blk_lt (g := gb514) (o := .cells #[.slice A0_0 l0_0.length c0_0, .slice A0_1 l0_1.length c0_1, .string a0_2, .int .i64 a0_3] 30 (0, 0)) (zb_ BK514.out)) : gb515 ≠ gb514)); replace BK514 := zB_ BK514.out hb; clear hb hbox hg; have hnb19 := NB514_515.out; have hnc19 := NB515_514.out; have hcz20_0 := cz_ BK514.out 0 (.slice A0_0 l0_0.length c0_0) rfl; have hcz20_1 := cz_ BK514.out 1 (.slice A0_1 l0_1.length c0_1) rfl; have hcz20_2 := cz_ BK514.out 2 (.string a0_2) rfl; have hcz20_3 := cz_ BK514.out 3 (.int .i64 a0_3) rfl; have hfz20_0 := blk_frozen BK514.out 0; have hfz20_1 := blk_frozen BK514.out 1; have hfz20_2 := blk_frozen BK514.out 2; have hfz20_3 := blk_frozen BK514.out 3; have hcz21_0 := cz_ BK515.out 0 (.slice A1_0 l1_0.length c1_0) rfl; have hcz21_1 := cz_ BK515.out 1 (.slice A1_1 l1_1.length c1_1) rfl; have hcz21_2 := cz_ BK515.out 2 (.string a1_2) rfl; have hcz21_3 := cz_ BK515.out 3 (.int .i64 a1_3) rfl; have hfz21_0 := blk_frozen BK515.out 0; have hfz21_1 := blk_frozen BK515.out 1; have hfz21_2 := blk_frozen BK515.out 2; have hfz21_3 := blk_frozen BK515.out 3) | (go_at_call 15; (with_reducible refine (laws_lwFlash.calls k _ _ l0_0 _ _ l0_1 _ _ l1_0 _ _ l1_1 true _ ?side1 ?side2 ?side3 ?side4 ?side5 ?side6 ?side7 ?side8 A5.out).mono ?_); (case side1 => exact zc_ (Kd.C_below HR0_0.out HB.out)); (case side2 => exact HC0_0.out); (case side3 => exact zc_ (Kd.C_below HR0_1.out HB.out)); (case side4 => exact HC0_1.out); (case side5 => exact zc_ (Kd.C_below HR1_0.out HB.out)); (case side6 => exact HC1_0.out); (case side7 => exact zc_ (Kd.C_below HR1_1.out HB.out)); (case side8 => exact HC1_1.out); rintro e w22 ⟨rfl, hb⟩; replace BK514 := zB_ BK514.out hb; replace BK515 := zB_ BK515.out hb; replace HB := zA_ (below_step (zg2_ HB.out GE514.out GE515.out) hb); (try clear hb); (try clear hb2); (try clear hk); (try clear hi); have hcz23_0 := cz_ BK514.out 0 (.slice A0_0 l0_0.length c0_0) rfl; have hcz23_1 := cz_ BK514.out 1 (.slice A0_1 l0_1.length c0_1) rfl; have hcz23_2 := cz_ BK514.out 2 (.string a0_2) rfl; have hcz23_3 := cz_ BK514.out 3 (.int .i64 a0_3) rfl; have hfz23_0 := blk_frozen BK514.out 0; have hfz23_1 := blk_frozen BK514.out 1; have hfz23_2 := blk_frozen BK514.out 2; have hfz23_3 := blk_frozen BK514.out 3))
         go_ret
         exact ⟨βFb, βfb⟩
     · replace c6 := Bool.eq_false_iff.mpr c6
       subst c6
       have H1 : (some false) = some r := by rw [if_neg (show ¬ (false = true) by decide)] at H; exact H
       clear H
       have H := H1
       clear H1
       obtain rfl := Option.some.inj H
       go_enter Try.func13, Try.ntmps13
       go_wp2_with (first | ((with_reducible refine gate_dst (N := 2) rfl ?_); refine box_event ?hg (N := 2) ?hd (cs := #[.slice A0_0 l0_0.length c0_0, .slice A0_1 l0_1.length c0_1, .string a0_2, .int .i64 a0_3]) (t := 30) ?hr ?_; (case hd => exact (by rfl)); (case hg => exact (by rfl)); (case hr => exact βMb); intro gb514 hg w24 hbox hb; have BK514 := zA_ (hbox); have GW514 := zA_ ((by rw [hg]; exact (below_size (zh_ HB.out)) : w.heap.size ≤ gb514)); have GE514 := zA_ ((by rw [hg]; exact (below_size (zh_ HB.out)) : w.heap.size ≤ gb514)); replace HB := zA_ (below_step (zh_ HB.out) hb); clear hb hbox hg) | ((with_reducible refine gate_dst (N := 3) rfl ?_); refine box_event ?hg (N := 3) ?hd (cs := #[.slice A1_0 l1_0.length c1_0, .slice A1_1 l1_1.length c1_1, .string a1_2, .int .i64 a1_3]) (t := 30) ?hr ?_; (case hd => exact (by rfl)); (case hg => exact (by rfl)); (case hr => exact βMb); intro gb515 hg w25 hbox hb; have BK515 := zA_ (hbox); have GW515 := zA_ ((by rw [hg]; exact (below_size (zg1_ HB.out GE514.out)) : w.heap.size ≤ gb515)); have GE515 := zA_ ((by rw [hg]; exact (below_size (zg1_ HB.out GE514.out)) : w.heap.size ≤ gb515)); replace HB := zA_ (below_step (zg1_ HB.out GE514.out) hb); have NB514_515 := zA_ ((by rw [hg]; exact Nat.ne_of_lt (blk_lt (g := gb514) (o := .cells #[.slice A0_0 l0_0.length c0_0, .slice A0_1 l0_1.length c0_1, .string a0_2, .int .i64 a0_3] 30 (0, 0)) (zb_ BK514.out)) : gb514 ≠ gb515)); have NB515_514 := zA_ ((by rw [hg]; exact Nat.ne_of_gt (blk_lt (g := gb514) (o := .cells #[.slice A0_0 l0_0.length c0_0, .slice A0_1 l0_1.length c0_1, .string a0_2, .int .i64 a0_3] 30 (0, 0)) (zb_ BK514.out)) : gb515 ≠ gb514)); replace BK514 := zB_ BK514.out hb; clear hb hbox hg; have hnb26 := NB514_515.out; have hnc26 := NB515_514.out; have hcz27_0 := cz_ BK514.out 0 (.slice A0_0 l0_0.length c0_0) rfl; have hcz27_1 := cz_ BK514.out 1 (.slice A0_1 l0_1.length c0_1) rfl; have hcz27_2 := cz_ BK514.out 2 (.string a0_2) rfl; have hcz27_3 := cz_ BK514.out 3 (.int .i64 a0_3) rfl; have hfz27_0 := blk_frozen BK514.out 0; have hfz27_1 := blk_frozen BK514.out 1; have hfz27_2 := blk_frozen BK514.out 2; have hfz27_3 := blk_frozen BK514.out 3; have hcz28_0 := cz_ BK515.out 0 (.slice A1_0 l1_0.length c1_0) rfl; have hcz28_1 := cz_ BK515.out 1 (.slice A1_1 l1_1.length c1_1) rfl; have hcz28_2 := cz_ BK515.out 2 (.string a1_2) rfl; have hcz28_3 := cz_ BK515.out 3 (.int .i64 a1_3) rfl; have hfz28_0 := blk_frozen BK515.out 0; have hfz28_1 := blk_frozen BK515.out 1; have hfz28_2 := blk_frozen BK515.out 2; have hfz28_3 := blk_frozen BK515.out 3) | (go_at_call 15; (with_reducible refine (laws_lwFlash.calls k _ _ l0_0 _ _ l0_1 _ _ l1_0 _ _ l1_1 false _ ?side1 ?side2 ?side3 ?side4 ?side5 ?side6 ?side7 ?side8 A5.out).mono ?_); (case side1 => exact zc_ (Kd.C_below HR0_0.out HB.out)); (case side2 => exact HC0_0.out); (case side3 => exact zc_ (Kd.C_below HR0_1.out HB.out)); (case side4 => exact HC0_1.out); (case side5 => exact zc_ (Kd.C_below HR1_0.out HB.out)); (case side6 => exact HC1_0.out); (case side7 => exact zc_ (Kd.C_below HR1_1.out HB.out)); (case side8 => exact HC1_1.out); rintro e w29 ⟨rfl, hb⟩; replace BK514 := zB_ BK514.out hb; replace BK515 := zB_ BK515.out hb; replace HB := zA_ (below_step (zg2_ HB.out GE514.out GE515.out) hb); (try clear hb); (try clear hb2); (try clear hk); (try clear hi)))
       go_ret
       exact ⟨βFb, βfb⟩
   · rw [if_neg c4] at H
     have c4b0 : (a0_2.toList == a1_2.toList) = false := beq_eq_false_iff_ne.mpr c4
     have c4b1 : (a0_2.toList != a1_2.toList) = true := bne_iff_ne.mpr c4
     obtain rfl := Option.some.inj H
     go_enter Try.func13, Try.ntmps13
     go_wp2_with (first | ((with_reducible refine gate_dst (N := 2) rfl ?_); refine box_event ?hg (N := 2) ?hd (cs := #[.slice A0_0 l0_0.length c0_0, .slice A0_1 l0_1.length c0_1, .string a0_2, .int .i64 a0_3]) (t := 30) ?hr ?_; (case hd => exact (by rfl)); (case hg => exact (by rfl)); (case hr => exact βMb); intro gb514 hg w30 hbox hb; have BK514 := zA_ (hbox); have GW514 := zA_ ((by rw [hg]; exact (below_size (zh_ HB.out)) : w.heap.size ≤ gb514)); have GE514 := zA_ ((by rw [hg]; exact (below_size (zh_ HB.out)) : w.heap.size ≤ gb514)); replace HB := zA_ (below_step (zh_ HB.out) hb); clear hb hbox hg) | ((with_reducible refine gate_dst (N := 3) rfl ?_); refine box_event ?hg (N := 3) ?hd (cs := #[.slice A1_0 l1_0.length c1_0, .slice A1_1 l1_1.length c1_1, .string a1_2, .int .i64 a1_3]) (t := 30) ?hr ?_; (case hd => exact (by rfl)); (case hg => exact (by rfl)); (case hr => exact βMb); intro gb515 hg w31 hbox hb; have BK515 := zA_ (hbox); have GW515 := zA_ ((by rw [hg]; exact (below_size (zg1_ HB.out GE514.out)) : w.heap.size ≤ gb515)); have GE515 := zA_ ((by rw [hg]; exact (below_size (zg1_ HB.out GE514.out)) : w.heap.size ≤ gb515)); replace HB := zA_ (below_step (zg1_ HB.out GE514.out) hb); have NB514_515 := zA_ ((by rw [hg]; exact Nat.ne_of_lt (blk_lt (g := gb514) (o := .cells #[.slice A0_0 l0_0.length c0_0, .slice A0_1 l0_1.length c0_1, .string a0_2, .int .i64 a0_3] 30 (0, 0)) (zb_ BK514.out)) : gb514 ≠ gb515)); have NB515_514 := zA_ ((by rw [hg]; exact Nat.ne_of_gt (blk_lt (g := gb514) (o := .cells #[.slice A0_0 l0_0.length c0_0, .slice A0_1 l0_1.length c0_1, .string a0_2, .int .i64 a0_3] 30 (0, 0)) (zb_ BK514.out)) : gb515 ≠ gb514)); replace BK514 := zB_ BK514.out hb; clear hb hbox hg; have hnb32 := NB514_515.out; have hnc32 := NB515_514.out; have hcz33_0 := cz_ BK514.out 0 (.slice A0_0 l0_0.length c0_0) rfl; have hcz33_1 := cz_ BK514.out 1 (.slice A0_1 l0_1.length c0_1) rfl; have hcz33_2 := cz_ BK514.out 2 (.string a0_2) rfl; have hcz33_3 := cz_ BK514.out 3 (.int .i64 a0_3) rfl; have hfz33_0 := blk_frozen BK514.out 0; have hfz33_1 := blk_frozen BK514.out 1; have hfz33_2 := blk_frozen BK514.out 2; have hfz33_3 := blk_frozen BK514.out 3; have hcz34_0 := cz_ BK515.out 0 (.slice A1_0 l1_0.length c1_0) rfl; have hcz34_1 := cz_ BK515.out 1 (.slice A1_1 l1_1.length c1_1) rfl; have hcz34_2 := cz_ BK515.out 2 (.string a1_2) rfl; have hcz34_3 := cz_ BK515.out 3 (.int .i64 a1_3) rfl; have hfz34_0 := blk_frozen BK515.out 0; have hfz34_1 := blk_frozen BK515.out 1; have hfz34_2 := blk_frozen BK515.out 2; have hfz34_3 := blk_frozen BK515.out 3))
     go_ret
     exact ⟨βFb, βfb⟩
 · rw [if_neg c3] at H
   have c3b0 : (a0_3 == a1_3) = false := beq_eq_false_iff_ne.mpr c3
   have c3b1 : (a0_3 != a1_3) = true := bne_iff_ne.mpr c3
   obtain rfl := Option.some.inj H
   go_enter Try.func13, Try.ntmps13
   go_wp2_with (first | ((with_reducible refine gate_dst (N := 2) rfl ?_); refine box_event ?hg (N := 2) ?hd (cs := #[.slice A0_0 l0_0.length c0_0, .slice A0_1 l0_1.length c0_1, .string a0_2, .int .i64 a0_3]) (t := 30) ?hr ?_; (case hd => exact (by rfl)); (case hg => exact (by rfl)); (case hr => exact βMb); intro gb514 hg w35 hbox hb; have BK514 := zA_ (hbox); have GW514 := zA_ ((by rw [hg]; exact (below_size (zh_ HB.out)) : w.heap.size ≤ gb514)); have GE514 := zA_ ((by rw [hg]; exact (below_size (zh_ HB.out)) : w.heap.size ≤ gb514)); replace HB := zA_ (below_step (zh_ HB.out) hb); clear hb hbox hg) | ((with_reducible refine gate_dst (N := 3) rfl ?_); refine box_event ?hg (N := 3) ?hd (cs := #[.slice A1_0 l1_0.length c1_0, .slice A1_1 l1_1.length c1_1, .string a1_2, .int .i64 a1_3]) (t := 30) ?hr ?_; (case hd => exact (by rfl)); (case hg => exact (by rfl)); (case hr => exact βMb); intro gb515 hg w36 hbox hb; have BK515 := zA_ (hbox); have GW515 := zA_ ((by rw [hg]; exact (below_size (zg1_ HB.out GE514.out)) : w.heap.size ≤ gb515)); have GE515 := zA_ ((by rw [hg]; exact (below_size (zg1_ HB.out GE514.out)) : w.heap.size ≤ gb515)); replace HB := zA_ (below_step (zg1_ HB.out GE514.out) hb); have NB514_515 := zA_ ((by rw [hg]; exact Nat.ne_of_lt (blk_lt (g := gb514) (o := .cells #[.slice A0_0 l0_0.length c0_0, .slice A0_1 l0_1.length c0_1, .string a0_2, .int .i64 a0_3] 30 (0, 0)) (zb_ BK514.out)) : gb514 ≠ gb515)); have NB515_514 := zA_ ((by rw [hg]; exact Nat.ne_of_gt (blk_lt (g := gb514) (o := .cells #[.slice A0_0 l0_0.length c0_0, .slice A0_1 l0_1.length c0_1, .string a0_2, .int .i64 a0_3] 30 (0, 0)) (zb_ BK514.out)) : gb515 ≠ gb514)); replace BK514 := zB_ BK514.out hb; clear hb hbox hg; have hnb37 := NB514_515.out; have hnc37 := NB515_514.out; have hcz38_0 := cz_ BK514.out 0 (.slice A0_0 l0_0.length c0_0) rfl; have hcz38_1 := cz_ BK514.out 1 (.slice A0_1 l0_1.length c0_1) rfl; have hcz38_2 := cz_ BK514.out 2 (.string a0_2) rfl; have hcz38_3 := cz_ BK514.out 3 (.int .i64 a0_3) rfl; have hfz38_0 := blk_frozen BK514.out 0; have hfz38_1 := blk_frozen BK514.out 1; have hfz38_2 := blk_frozen BK514.out 2; have hfz38_3 := blk_frozen BK514.out 3; have hcz39_0 := cz_ BK515.out 0 (.slice A1_0 l1_0.length c1_0) rfl; have hcz39_1 := cz_ BK515.out 1 (.slice A1_1 l1_1.length c1_1) rfl; have hcz39_2 := cz_ BK515.out 2 (.string a1_2) rfl; have hcz39_3 := cz_ BK515.out 3 (.int .i64 a1_3) rfl; have hfz39_0 := blk_frozen BK515.out 0; have hfz39_1 := blk_frozen BK515.out 1; have hfz39_2 := blk_frozen BK515.out 2; have hfz39_3 := blk_frozen BK515.out 3))
   go_ret
   exact ⟨βFb, βfb⟩
end Go.Proofs.Ytboobfpmmaaogaa.Q
namespace Go.Proofs.Ytboobfpmmaaogaa.Q
open Go.RowKit Go.Proofs.YtboobfpmmaaogaaW.PrintWords Go.Proofs.YtboobfpmmaaogaaW.PrintLast Go.Proofs.YtboobfpmmaaogaaW.PrintMore
attribute [local go_sem] max2_int min2_int max_two min_two max_three min_three max_four min_four Instr.field asAgg
set_option linter.unusedVariables false
set_option linter.unusedSimpArgs false
set_option maxHeartbeats 8000000
set_option maxRecDepth 100000
def spec_Torn.j0 : Nat → ByteArray → ByteArray → Int → Bool → Option (ByteArray)
 | 0, _, _, _, _ => none
 | k + 1, x0, x1, x2, x19 => if x19 = true then (if (x0.size : Int) > 8000 then (some (⟨#[]⟩ : ByteArray)) else (if (x1.size : Int) > 8000 then (some (⟨#[]⟩ : ByteArray)) else (some x0))) else (if x2 = 1 then (some x1) else (if (wrap64 (x2 - 2)) > (x1.size : Int) then (if 0 ≤ (x1.size : Int) then (if (x1.size : Int) ≤ (x1.size : Int) then (some (x1.extract 0 ((x1.size : Int) : Int).toNat)) else (none)) else (none)) else (if 0 ≤ (wrap64 (x2 - 2)) then (if (wrap64 (x2 - 2)) ≤ (x1.size : Int) then (some (x1.extract 0 ((wrap64 (x2 - 2)) : Int).toNat)) else (none)) else (none))))
def spec_Torn.f (k : Nat) (a0 : ByteArray) (a1 : ByteArray) (a2 : Int) : Option (ByteArray) := if (a0.size : Int) > 8000 then (spec_Torn.j0 k a0 a1 a2 true) else (if (a1.size : Int) > 8000 then (spec_Torn.j0 k a0 a1 a2 true) else (spec_Torn.j0 k a0 a1 a2 (decide (a2 < 1))))
theorem spec_Torn.calls (k : Nat) (a0 : ByteArray) (a1 : ByteArray) (a2 : Int) (r : ByteArray) (w : World) (h : spec_Torn.f k a0 a1 a2 = some r) :
 Calls Try.prog 23 #[.string a0, .string a1, .int .i64 a2] w fun e w' => e = .returned (.string r) ∧ Drawn0 w w' := by
 have H : (if (a0.size : Int) > 8000 then (spec_Torn.j0 k a0 a1 a2 true) else (if (a1.size : Int) > 8000 then (spec_Torn.j0 k a0 a1 a2 true) else (spec_Torn.j0 k a0 a1 a2 (decide (a2 < 1))))) = some r := h
 clear h
 have HC4 := zA_ H
 clear H
 go_enter Try.func23, Try.ntmps23
 go_upto_region 1 with (fail)
 go_cut [19] (fun v19 wc => ∃ (kq : Nat) (x19_3 : Bool), v19 = .bool x19_3 ∧ Aside0 (spec_Torn.j0 kq a0 a1 a2 x19_3 = some r) ∧ Aside0 (kq ≤ k) ∧ Drawn0 w wc)
 case first =>
  have H := HC4.out
  clear HC4
  by_cases c5 : (a0.size : Int) > 8000
  · rw [if_pos c5] at H
    have c5b0 : decide (8000 < (a0.size : Int)) = true := decide_eq_true c5
    have c5b1 : decide (8000 < a0.size) = true := decide_eq_true (by omega)
    clear c5
    (first | rw [c5b0] | (simp only [i64_w, i32_w]; rw [c5b0]) | skip)
    have H' := zA_ H
    clear H
    go_wp2
    go_meet
    case rel => exact ⟨_, (true), βLb, H', ⟨βNb⟩, βIb⟩
  · rw [if_neg c5] at H
    have c5b0 : decide (8000 < (a0.size : Int)) = false := decide_eq_false c5
    have c5b1 : decide (8000 < a0.size) = false := decide_eq_false (by omega)
    clear c5
    (first | rw [c5b0] | (simp only [i64_w, i32_w]; rw [c5b0]) | skip)
    by_cases c6 : (a1.size : Int) > 8000
    · rw [if_pos c6] at H
      have c6b0 : decide (8000 < (a1.size : Int)) = true := decide_eq_true c6
      have c6b1 : decide (8000 < a1.size) = true := decide_eq_true (by omega)
      clear c6
      have H' := zA_ H
      clear H
      go_wp2
      go_meet
      case rel => exact ⟨_, (true), βLb, H', ⟨βNb⟩, βIb⟩
    · rw [if_neg c6] at H
      have c6b0 : decide (8000 < (a1.size : Int)) = false := decide_eq_false c6
      have c6b1 : decide (8000 < a1.size) = false := decide_eq_false (by omega)
      clear c6
      have H' := zA_ H
      clear H
      go_wp2
      go_meet
      case rel => exact ⟨_, (decide (a2 < 1)), βLb, H', ⟨βNb⟩, βIb⟩
 case rest =>
  clear HC4
  try clear c2
  try clear p2
  try clear c5
  try clear c5b0
  try clear c5b1
  try clear c6
  try clear c6b0
  try clear c6b1
  obtain ⟨kq, x19_3, rfl, HA, HJ3, ⟨mc3, rfl⟩⟩ := hcut
  cases kq with
  | zero => exact absurd HA.out (by simp [spec_Torn.j0])
  | succ kj3 =>
   have H := HA.out
   clear HA
   simp only [spec_Torn.j0] at H
   by_cases c7 : x19_3 = true
   · subst c7
     have H1 : (if (a0.size : Int) > 8000 then (some (⟨#[]⟩ : ByteArray)) else (if (a1.size : Int) > 8000 then (some (⟨#[]⟩ : ByteArray)) else (some a0))) = some r := by rw [if_pos rfl] at H; exact H
     clear H
     have H := H1
     clear H1
     by_cases c8 : (a0.size : Int) > 8000
     · rw [if_pos c8] at H
       have c8b0 : decide (8000 < (a0.size : Int)) = true := decide_eq_true c8
       have c8b1 : decide (8000 < a0.size) = true := decide_eq_true (by omega)
       clear c8
       obtain rfl := Option.some.inj H
       go_wp2
       go_ret
       exact ⟨βLb, βIb⟩
     · rw [if_neg c8] at H
       have c8b0 : decide (8000 < (a0.size : Int)) = false := decide_eq_false c8
       have c8b1 : decide (8000 < a0.size) = false := decide_eq_false (by omega)
       clear c8
       by_cases c9 : (a1.size : Int) > 8000
       · rw [if_pos c9] at H
         have c9b0 : decide (8000 < (a1.size : Int)) = true := decide_eq_true c9
         have c9b1 : decide (8000 < a1.size) = true := decide_eq_true (by omega)
         clear c9
         obtain rfl := Option.some.inj H
         go_wp2
         go_ret
         exact ⟨βLb, βIb⟩
       · rw [if_neg c9] at H
         have c9b0 : decide (8000 < (a1.size : Int)) = false := decide_eq_false c9
         have c9b1 : decide (8000 < a1.size) = false := decide_eq_false (by omega)
         clear c9
         obtain rfl := Option.some.inj H
         go_wp2
         go_ret
         exact ⟨βLb, βIb⟩
   · replace c7 := Bool.eq_false_iff.mpr c7
     subst c7
     have H1 : (if a2 = 1 then (some a1) else (if (wrap64 (a2 - 2)) > (a1.size : Int) then (if 0 ≤ (a1.size : Int) then (if (a1.size : Int) ≤ (a1.size : Int) then (some (a1.extract 0 ((a1.size : Int) : Int).toNat)) else (none)) else (none)) else (if 0 ≤ (wrap64 (a2 - 2)) then (if (wrap64 (a2 - 2)) ≤ (a1.size : Int) then (some (a1.extract 0 ((wrap64 (a2 - 2)) : Int).toNat)) else (none)) else (none)))) = some r := by rw [if_neg (show ¬ (false = true) by decide)] at H; exact H
     clear H
     have H := H1
     clear H1
     by_cases c10 : a2 = 1
     · rw [if_pos c10] at H
       have c10b0 : (a2 == 1) = true := beq_iff_eq.mpr c10
       have c10b1 : (a2 != 1) = false := bne_eq_false_iff_eq.mpr c10
       clear c10
       obtain rfl := Option.some.inj H
       go_wp2
       go_ret
       exact ⟨βLb, βIb⟩
     · rw [if_neg c10] at H
       have c10b0 : (a2 == 1) = false := beq_eq_false_iff_ne.mpr c10
       have c10b1 : (a2 != 1) = true := bne_iff_ne.mpr c10
       by_cases c11 : (wrap64 (a2 - 2)) > (a1.size : Int)
       · rw [if_pos c11] at H
         have c11b0 : decide ((a1.size : Int) < (wrap64 (a2 - 2))) = true := decide_eq_true c11
         clear c11
         by_cases c12 : 0 ≤ (a1.size : Int)
         · rw [if_pos c12] at H
           have c12b0 := eq_true c12
           have c12b1 : decide (0 ≤ (a1.size : Int)) = true := decide_eq_true c12
           clear c12
           by_cases c13 : (a1.size : Int) ≤ (a1.size : Int)
           · rw [if_pos c13] at H
             have c13b0 := eq_true c13
             have c13b1 : decide ((a1.size : Int) ≤ (a1.size : Int)) = true := decide_eq_true c13
             clear c13
             obtain rfl := Option.some.inj H
             go_wp2
             go_ret
             exact ⟨βLb, βIb⟩
           · rw [if_neg c13] at H
             exact absurd H (by simp)
         · rw [if_neg c12] at H
           exact absurd H (by simp)
       · rw [if_neg c11] at H
         have c11b0 : decide ((a1.size : Int) < (wrap64 (a2 - 2))) = false := decide_eq_false c11
         clear c11
         obtain ⟨ji14, hji14⟩ : ∃ j_ : Int, (wrap64 (a2 - 2)) = j_ := ⟨_, rfl⟩
         replace H : (if 0 ≤ (ji14) then (if (ji14) ≤ (a1.size : Int) then (some (a1.extract 0 ((ji14) : Int).toNat)) else (none)) else (none)) = some r := by first | (rw [hji14] at H; exact H) | (simp only [hji14] at H ⊢; exact H)
         (try rw [hji14] at c11b0)
         have hji14w : (IntKind.i64.wrap (a2 - 2)) = ji14 := (i64_w _).trans hji14
         by_cases c15 : 0 ≤ (ji14)
         · rw [if_pos c15] at H
           have c15b0 := eq_true c15
           have c15b1 : decide (0 ≤ (ji14)) = true := decide_eq_true c15
           clear c15
           by_cases c16 : (ji14) ≤ (a1.size : Int)
           · rw [if_pos c16] at H
             have c16b0 := eq_true c16
             have c16b1 : decide ((ji14) ≤ (a1.size : Int)) = true := decide_eq_true c16
             clear c16
             obtain rfl := Option.some.inj H
             go_wp2
             go_ret
             exact ⟨(by first | rfl | (simp; done) | (simp only [← hji14] <;> (first | rfl | simp)) | (simp [*]; done)), βIb⟩
           · rw [if_neg c16] at H
             exact absurd H (by simp)
         · rw [if_neg c15] at H
           exact absurd H (by simp)
end Go.Proofs.Ytboobfpmmaaogaa.Q
