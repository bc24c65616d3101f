import Derived.Lib.Bytealg
import Derived.Test.YtldhjbjbjoomcaaDoorDgLaws
import Derived.Test.YtldhjbjbjoomcaaDoorImageD
import Derived.Test.YtldhjbjbjoomcaaDoorQx0
import Derived.Test.YtldhjbjbjoomcaaDoorQx6
import Derived.Test.YtldhjbjbjoomcaaDoorQx7
namespace Go.Proofs.YtldhjbjbjoomcaaDoor.Q
open Go.RowKit Go.Proofs.YtldhjbjbjoomcaaDoorW.PrintWords Go.Proofs.YtldhjbjbjoomcaaDoorW.PrintLast Go.Proofs.YtldhjbjbjoomcaaDoorW.PrintMore
attribute [local go_sem] max2_int min2_int max_two min_two max_three min_three max_four min_four Instr.field asAgg   -- for this text's walks alone
set_option linter.unusedVariables false
set_option linter.unusedSimpArgs false
def dg.imgd (l : List ByteArray) : ByteArray := if Pure.imageM l = true then dg.digest (Pure.cat l) else ⟨#[]⟩
theorem dg.str_rows {W : World} {A : Option Addr} {l : List ByteArray} (h : Kd.C Kd.string W A l.length l) (hne : l ≠ []) : ∃ b o, A = some ⟨b, o, none⟩ ∧ b < W.heap.size ∧ ∀ (j : Nat) x, l[j]? = some x → W.cell? ⟨b, o + j, none⟩ = some (.string x) := by
  have h0 : 0 < l.length := by cases l with | nil => exact absurd rfl hne | cons a r => simp
  obtain ⟨_, _, h2⟩ := h
  obtain ⟨ad, rfl, hc⟩ := h2 h0
  have hcell : ∀ (j : Nat) x, l[j]? = some x → W.cell? (ad.add j) = some (.string x) := by
    intro j x hx
    obtain ⟨c, hl, hk, hr⟩ := hc j x hx
    obtain rfl : c = [.string x] := hk
    have := hr 0 (.string x) rfl
    have e : j * Kd.string.sz + 0 = j := Nat.mul_one j
    rwa [e] at this
  obtain ⟨b, o, spot⟩ := ad
  obtain ⟨x0, hx0⟩ : ∃ x, l[0]? = some x := ⟨_, List.getElem?_eq_getElem h0⟩
  have hspot : spot = none := by simpa [Addr.add] using World.cell?_spot (hcell 0 x0 hx0)
  subst hspot
  refine ⟨b, o, rfl, World.block_lt_of_cell? _ _ (hcell 0 x0 hx0), fun j x hx => ?_⟩
  have := hcell j x hx
  rwa [Addr.add_lit] at this
set_option maxHeartbeats 8000000 in
theorem dg.spec_ImageDigest (A0 : Option Addr) (c0 : Nat) (l0 : List ByteArray) (w : World) (hr0 : Kd.C Kd.string w A0 l0.length l0) (hc0 : l0.length ≤ c0) : Calls Tryd.prog 11 #[.slice A0 l0.length c0] w fun e w' => e = .returned (.string (dg.imgd l0)) ∧ Below w.heap.size w w' := by
  have HR := Aside0.mk hr0
  have HC := Aside0.mk hc0
  obtain ⟨k1, hk1⟩ := Pure.specImage l0
  have HK1 := Aside0.mk (hk1 k1 (Nat.le_refl _))
  clear hr0 hc0 hk1
  go_enter Tryd.func11, Tryd.ntmps11
  by_cases h : Pure.imageM l0 = true
  · obtain ⟨k2, hk2⟩ := Pure.specJoin l0 h
    have HK2 := Aside0.mk (hk2 k2 (Nat.le_refl _))
    have HI := Aside0.mk h
    rw [h] at HK1
    clear hk2 h
    go_wp2_with (first
      | (go_at_call 27; (with_reducible refine (spec_ImageRight.calls k1 A0 c0 l0 _ _ HR.out HC.out HK1.out).mono ?_); rintro e w2 ⟨rfl, hd⟩; have HB := Aside0.mk (Drawn0.below hd); clear hd)
      | (go_at_call 33; (with_reducible refine (spec_l07Join.calls k2 A0 c0 l0 _ _ (Kd.C_below HR.out HB.out) HC.out HK2.out).mono ?_); rintro e w3 ⟨rfl, hd⟩; have HB2 := Aside0.mk (below_step HB.out (Drawn0.below hd)); clear hd)
      | (go_at_call 7; (with_reducible refine (dg.spec_Digest _ _).mono ?_); rintro e w4 ⟨rfl, hb⟩; have HB3 := Aside0.mk (below_step HB2.out hb); clear hb))
    go_ret
    exact ⟨by rw [dg.imgd, if_pos HI.out]; rfl, HB3.out⟩
  · have HI := Aside0.mk h
    have hf : Pure.imageM l0 = false := by simpa using h
    rw [hf] at HK1
    clear h hf
    go_wp2_with (go_at_call 27; (with_reducible refine (spec_ImageRight.calls k1 A0 c0 l0 _ _ HR.out HC.out HK1.out).mono ?_); rintro e w2 ⟨rfl, hd⟩; have HB := Aside0.mk (Drawn0.below hd); clear hd)
    go_ret
    exact ⟨by rw [dg.imgd, if_neg HI.out]; rfl, HB.out⟩
set_option maxHeartbeats 8000000 in
theorem dg.impl_imageDigest (A0 : Option Addr) (c0 : Nat) (l0 : List ByteArray) (w : World) (hG : dg.G w) (hI : Pure.imageM l0 = true) (hr0 : Kd.C Kd.string w A0 l0.length l0) (hc0 : l0.length ≤ c0) : Calls Tryd.prog 35 #[.slice A0 l0.length c0] w fun e w' => e = .returned (.string (dg.digest (Pure.cat l0))) ∧ Below w.heap.size w w' := by
  obtain ⟨hne, h8, hs⟩ := Pure.imageM_sizes hI
  obtain ⟨b, o, rfl, hb, hcells⟩ := dg.str_rows hr0 hne
  have hz := Pure.cat_size hs
  have HG := Aside0.mk hG
  have HJ := Aside0.mk (show Calls Tryd.prog 62 #[.slice (some ⟨b, o, none⟩) l0.length c0, .string ⟨#[]⟩] w fun e w' => e = .returned (.string (Pure.cat l0)) ∧ Below w.heap.size w w' from by
    have h := Tryd.strings_Join b o c0 l0 ⟨#[]⟩ w hcells hb (by omega) hc0 (by
      have e := Pure.cat_join l0
      have := congrArg ByteArray.size e
      rw [hz] at this
      have z : ∀ xs : List UInt8, (⟨xs.toArray⟩ : ByteArray).size = xs.length := fun xs => by simp [ByteArray.size]
      rw [z] at this
      omega)
    rw [Pure.cat_join] at h
    exact h)
  have HD := Aside0.mk (dg.digest_f (Pure.cat l0) (by omega))
  clear hG hI hr0 hc0 hne h8 hs hcells hb hz
  go_enter Tryd.func35, Tryd.ntmps35
  go_wp2_with (first
    | (go_at_call 62; (with_reducible refine HJ.out.mono ?_); rintro e w2 ⟨rfl, hb⟩; have HB := Aside0.mk hb; clear hb)
    | (go_at_call 29; (with_reducible refine (impl_digest.calls _ _ _ (dg.G_below HG.out HB.out) HD.out).mono ?_); rintro e w3 ⟨rfl, hb⟩; have HB2 := Aside0.mk (below_step HB.out hb); clear hb))
  go_ret
  exact ⟨rfl, HB2.out⟩
set_option maxHeartbeats 8000000 in
theorem dg.impl_ImageDigest (A0 : Option Addr) (c0 : Nat) (l0 : List ByteArray) (w : World) (hG : dg.G w) (hr0 : Kd.C Kd.string w A0 l0.length l0) (hc0 : l0.length ≤ c0) (hl : l0.length ≤ 1048576) : Calls Tryd.prog 13 #[.slice A0 l0.length c0] w fun e w' => e = .returned (.string (dg.imgd l0)) ∧ Below w.heap.size w w' := by
  have HR := Aside0.mk hr0
  have HC := Aside0.mk hc0
  have HG := Aside0.mk hG
  have HK1 := Aside0.mk (Pure.implImage l0 (by omega))
  clear hr0 hc0 hG
  go_enter Tryd.func13, Tryd.ntmps13
  by_cases h : Pure.imageM l0 = true
  · have HI := Aside0.mk h
    rw [h] at HK1
    clear h
    go_wp2_with (first
      | (go_at_call 34; (with_reducible refine (impl_isImage.calls A0 c0 l0 _ _ HR.out HC.out HK1.out).mono ?_); rintro e w2 ⟨rfl, hd⟩; have HB := Aside0.mk (Drawn0.below hd); clear hd)
      | (go_at_call 35; (with_reducible refine (dg.impl_imageDigest A0 c0 l0 _ (dg.G_below HG.out HB.out) HI.out (Kd.C_below HR.out HB.out) HC.out).mono ?_); rintro e w4 ⟨rfl, hb⟩; have HB3 := Aside0.mk (below_step HB.out hb); clear hb))
    go_ret
    exact ⟨by rw [dg.imgd, if_pos HI.out]; rfl, HB3.out⟩
  · have HI := Aside0.mk h
    have hf : Pure.imageM l0 = false := by simpa using h
    rw [hf] at HK1
    clear h hf
    go_wp2_with (go_at_call 34; (with_reducible refine (impl_isImage.calls A0 c0 l0 _ _ HR.out HC.out HK1.out).mono ?_); rintro e w2 ⟨rfl, hd⟩; have HB := Aside0.mk (Drawn0.below hd); clear hd)
    go_ret
    exact ⟨by rw [dg.imgd, if_neg HI.out]; rfl, HB.out⟩
set_option maxHeartbeats 8000000 in
theorem laws_FnExactImageDigest.calls (A0 : Option Addr) (c0 : Nat) (l0 : List ByteArray) (w : World) (hG : dg.G w) (hr0 : Kd.C Kd.string w A0 l0.length l0) (hc0 : l0.length ≤ c0) (hl : l0.length ≤ 9223372036854775807) (hs : ∀ s ∈ l0, s.size ≤ 9223372036854775807) : Calls Tryd.prog 5 #[.slice A0 l0.length c0] w fun e w' => e = .returned (.bool true) ∧ Below w.heap.size w w' := by
  have HR := Aside0.mk hr0
  have HC := Aside0.mk hc0
  have HG := Aside0.mk hG
  obtain ⟨v, ⟨k1, hk1⟩, hv⟩ := Pure.szStr l0 hl hs
  have HK1 := Aside0.mk (hk1 k1 (Nat.le_refl _))
  clear hr0 hc0 hG hk1 hl hs
  go_enter Tryd.func5, Tryd.ntmps5
  by_cases h : v < 0
  · clear hv
    go_wp2_with (go_at_call 10; (with_reducible refine (laws_szStringS.calls k1 A0 c0 l0 _ _ _ HR.out HC.out HK1.out).mono ?_); rintro e w2 ⟨rfl, hd⟩; have HB := Aside0.mk (Drawn0.below hd); clear hd)
    go_ret
    exact ⟨rfl, HB.out⟩
  · have hl := hv h
    clear hv
    obtain ⟨k2, hk2⟩ := Pure.toStr l0 (by omega)
    have HK2 := Aside0.mk (hk2 k2 (Nat.le_refl _))
    obtain ⟨k3, hk3⟩ := Pure.eqStr l0 (by omega)
    have HK3 := Aside0.mk (hk3 k3 (Nat.le_refl _))
    have HL := Aside0.mk hl
    have HT := Aside0.mk (show ∀ W, Below w.heap.size w W → Calls Tryd.prog 12 #[.slice A0 l0.length c0] W fun e w' => ∃ A c, e = .returned (.slice A l0.length c) ∧ l0.length ≤ c ∧ Kd.C Kd.string w' A l0.length l0 ∧ Below W.heap.size W w' from fun W hB => by
      refine (laws_toStringS.calls k2 A0 c0 l0 l0 W (Kd.C_below HR.out hB) HC.out HK2.out).mono ?_
      rintro e w' ⟨v0, rfl, hR, hb⟩
      obtain ⟨A, c, rfl, h1, h2⟩ := Kd.R_reads hR
      exact ⟨A, c, rfl, h1, h2, hb⟩)
    clear hk2 hk3 hl
    go_upto_region 6 with (first
      | (go_at_call 10; (with_reducible refine (laws_szStringS.calls k1 A0 c0 l0 _ _ _ HR.out HC.out HK1.out).mono ?_); rintro e w2 ⟨rfl, hd⟩; have HB := Aside0.mk (Drawn0.below hd); clear hd)
      | (go_at_call 12; (with_reducible refine (HT.out _ HB.out).mono ?_); rintro e w3 ⟨A1, c1, rfl, hc1, hr1, hb⟩; have HR1 := Aside0.mk hr1; have HC1 := Aside0.mk hc1; have HB1 := Aside0.mk (below_step HB.out hb); clear hr1 hc1 hb)
      | (go_at_call 11; (with_reducible refine (dg.spec_ImageDigest A1 c1 l0 _ HR1.out HC1.out).mono ?_); rintro e w4 ⟨rfl, hb⟩; have HB2 := Aside0.mk (below_step HB1.out hb); clear hb))
    go_upto_region 7 with (go_at_call 12; (with_reducible refine (HT.out _ HB2.out).mono ?_); rintro e w5 ⟨A2, c2, rfl, hc2, hr2, hb⟩; have HR2 := Aside0.mk hr2; have HC2 := Aside0.mk hc2; have HB3 := Aside0.mk (below_step HB2.out hb); clear hr2 hc2 hb)
    go_upto_region 8 with (go_at_call 13; (with_reducible refine (dg.impl_ImageDigest A2 c2 l0 _ (dg.G_below HG.out HB3.out) HR2.out HC2.out HL.out).mono ?_); rintro e w6 ⟨rfl, hb⟩; have HB4 := Aside0.mk (below_step HB3.out hb); have HR3 := Aside0.mk (Kd.C_below HR2.out hb); clear hb)
    go_wp2_with (first
      | (go_at_call 12; (with_reducible refine (HT.out _ HB4.out).mono ?_); rintro e w7 ⟨A4, c4, rfl, hc4, hr4, hb⟩; have HR4 := Aside0.mk hr4; have HC4 := Aside0.mk hc4; have HB5 := Aside0.mk (below_step HB4.out hb); have HR5 := Aside0.mk (Kd.C_below HR3.out hb); clear hr4 hc4 hb)
      | (go_at_call 14; (with_reducible refine (laws_eqStringS.calls k3 A2 c2 l0 A4 c4 l0 _ _ HR5.out HC2.out HR4.out HC4.out HK3.out).mono ?_); rintro e w8 ⟨rfl, hd⟩; have HB6 := Aside0.mk (below_step HB5.out (Drawn0.below hd)); clear hd))
    go_ret
    exact ⟨rfl, HB6.out⟩

end Go.Proofs.YtldhjbjbjoomcaaDoor.Q
