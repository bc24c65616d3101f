import Derived.Lib.Bytealg
import Derived.Test.YtldhjbjbjoomcaaDoorDgSpec
import Derived.Test.YtldhjbjbjoomcaaDoorQx0
import Derived.Test.YtldhjbjbjoomcaaDoorQx1
import Derived.Test.YtldhjbjbjoomcaaDoorQx2
namespace Go.Proofs.YtldhjbjbjoomcaaDoor.Q
open Go.RowKit Go.Proofs.YtldhjbjbjoomcaaDoorW.PrintWords Go.Proofs.YtldhjbjbjoomcaaDoorW.PrintLast Go.Proofs.YtldhjbjbjoomcaaDoorW.PrintMore
attribute [local go_sem] max2_int min2_int max_two min_two max_three min_three max_four min_four Instr.field asAgg   -- for this text's walks alone
set_option linter.unusedVariables false
set_option linter.unusedSimpArgs false
theorem dg.conv_below (w : World) (s : ByteArray) : Below w.heap.size w (Lib.bytesWorld w 5 s) := ⟨rfl, rfl, rfl, by rw [Lib.bytesWorld_size]; omega, fun k hk => Lib.bytesWorld_at_old w 5 s k hk⟩
theorem dg.turn (t : ByteArray) (i c : Nat) (A : Option Addr) (W : World) (hr : Kd.C (Kd.int .i64) W A 8 (dg.after t i)) (hc : 8 ≤ c) (ht : 64 * i + 64 ≤ t.size) :
    Calls Tryd.prog 55 #[.slice A 8 c, .string (t.extract (64 * i) (64 * i + 64))] W fun e w' => ∃ (A' : Option Addr) (c' : Nat), e = .returned (.slice A' 8 c') ∧ 8 ≤ c' ∧ Kd.C (Kd.int .i64) w' A' 8 (dg.after t (i + 1)) ∧ Below W.heap.size W w' := by
  have h8 := dg.after_length t i
  obtain ⟨K, hK⟩ := dg.specBlock (dg.after t i) (t.extract (64 * i) (64 * i + 64)) h8 (dg.after_range t i) (by rw [ByteArray.size_extract]; omega)
  have h := spec_l02Block.calls K A c (dg.after t i) _ _ W (by rw [h8]; exact hr) (by rw [h8]; exact hc) hK
  rw [h8] at h
  refine h.mono ?_
  rintro e w' ⟨v, rfl, hR, hB⟩
  obtain ⟨A', c', rfl, h1, h2⟩ := Kd.R_reads hR
  rw [← dg.after, dg.after_length] at h1 h2
  exact ⟨A', c', by rw [← dg.after, dg.after_length], h1, h2, hB⟩
theorem dg.Bw_empty (base : Nat) (W : World) (h : base ≤ W.heap.size) : dg.Bw base (W.alloc (.cells #[] 5)) (.slice (some ⟨W.heap.size, 0, none⟩) 0 0) [] :=
  ⟨W.heap.size, 0, rfl, h, Nat.le_refl _, fun j x hx => by simp at hx, fun j hj => by omega, (Array.getElem?_eq_some_iff.mp (blk_new W (.cells #[] 5))).1⟩
set_option maxHeartbeats 8000000 in
set_option maxRecDepth 100000 in
theorem spec_l02All.calls (a0 : ByteArray) (r : ByteArray) (w : World) (h : impl_digest.f a0 = some r) :
    Calls Tryd.prog 28 #[.string a0] w fun e w' => e = .returned (.string r) ∧ Below w.heap.size w w' := by
  unfold impl_digest.f at h
  by_cases hs : a0.size ≤ 1000000
  rotate_left
  · rw [if_neg hs] at h; cases h
  rw [if_pos hs] at h
  obtain rfl := Option.some.inj h
  clear h
  have HS := Aside0.mk hs
  clear hs
  have hcv := Lib.run_convert_string_bytes (P := Tryd.prog) w 9 24 5 a0 (u := .string) Tryd.underlying9 Tryd.underlying24 Tryd.underlying5
  have HBw := Aside0.mk (dg.Bw_conv w a0)
  have HB := Aside0.mk (dg.conv_below w a0)
  have HZ := Aside0.mk (show w.heap.size ≤ (Lib.bytesWorld w 5 a0).heap.size from (dg.conv_below w a0).size)
  generalize Lib.bytesWorld w 5 a0 = W1 at hcv HBw HB HZ
  generalize grownCap w a0.size 0 5 = cap at hcv HBw
  go_enter Tryd.func28, Tryd.ntmps28
  go_wp2_with (at_builtin; refine dg.append_b (W := W1) w.heap.size HZ.out rfl _ _ rfl (dg.bs a0) [128] 1 1 _ ?x1 rfl ?x3 ?x4 ?hn (by decide) ?hK)
  case x1 => rfl
  case x3 => exact HBw.out
  case x4 => rfl
  case hn => have := HS.out; rw [dg.bs_length]; omega
  intro v1 w2 hv1 hb1
  have HV := Aside0.mk (show dg.Bw w.heap.size w2 v1 (dg.pre a0 0) from by rw [dg.pre, List.replicate_zero, List.append_nil]; exact hv1)
  have HB2 := Aside0.mk (HB.out.trans hb1)
  clear hv1 hb1 hcv HBw HB HZ
  obtain ⟨g1, cap1, hv, _⟩ := HV.out
  rw [dg.pre_length] at hv
  subst hv
  have HPL := Aside0.mk (show dg.pad a0 < 64 from Nat.mod_lt _ (by decide))
  have HPD := Aside0.mk (show dg.pad a0 = (119 - a0.size % 64) % 64 from rfl)
  go_wp2
  go_loopg [3] (dg.pad a0) (fun gg v3 wr => ∃ (i g cap : Nat), v3 = .slice (some ⟨g, 0, none⟩) (a0.size + 1 + i) cap ∧ Aside0 (i ≤ dg.pad a0) ∧ Aside0 (dg.pad a0 ≤ i + gg) ∧ Aside0 (dg.Bw w.heap.size wr (.slice (some ⟨g, 0, none⟩) (a0.size + 1 + i) cap) (dg.pre a0 i)) ∧ Aside0 (Below w.heap.size w wr))
  case atStart => exact ⟨0, g1, cap1, rfl, ⟨Nat.zero_le _⟩, ⟨by omega⟩, HV, HB2⟩
  case round =>
    clear HV HB2
    obtain ⟨i, g, cap, rfl, HI, HGG, HV, HB⟩ := hrel
    have HZ := Aside0.mk HB.out.size
    have hs64 : (wrap64 ((a0.size + 1 + i : Nat) : Int)) = ((a0.size + 1 + i : Nat) : Int) := by have := HS.out; have := HI.out; have := HPL.out; unfold wrap64; omega
    by_cases hi : i < dg.pad a0
    · have hne : ¬ (((a0.size + 1 + i : Nat) : Int) % 64 = 56) := by have := HPD.out; omega
      have HLT := Aside0.mk hi
      clear hi
      go_wp2_with (at_builtin; refine dg.append_b (W := wr) w.heap.size HZ.out rfl _ _ rfl (dg.pre a0 i) [0] 1 1 _ ?y1 rfl ?y3 ?y4 ?yn (by decide) ?yK)
      case y1 => rfl
      case y3 => show dg.Bw _ _ (.slice (some ⟨g, 0, none⟩) (a0.size + 1 + i) cap) _; exact HV.out
      case y4 => rfl
      case yn => have := HS.out; have := HPL.out; have := HI.out; rw [dg.pre_length]; omega
      intro v1 w2 hv1 hb1
      rw [dg.pre_step] at hv1
      obtain ⟨g1, cap1, hv, hv2⟩ := hv1
      have hv1 : dg.Bw w.heap.size w2 v1 (dg.pre a0 (i + 1)) := ⟨g1, cap1, hv, hv2⟩
      rw [dg.pre_length] at hv
      subst hv
      have HV2 := Aside0.mk hv1
      have HB2 := Aside0.mk (HB.out.trans hb1)
      clear hv1 hb1 hv2 HV HB
      go_wp2
      go_roundg (dg.pad a0 - (i + 1))
      case measure => have := HGG.out; have := HLT.out; omega
      case rel => exact ⟨i + 1, g1, cap1, rfl, ⟨by have := HLT.out; omega⟩, ⟨by omega⟩, HV2, HB2⟩
    · obtain rfl : i = dg.pad a0 := by have := HI.out; omega
      have hne : (((a0.size + 1 + dg.pad a0 : Nat) : Int) % 64 = 56) := by have := HPD.out; omega
      have hN : IntKind.u64.wrap (wrap64 (8 * (a0.size : Int))) = 8 * (a0.size : Int) := by
        have := HS.out
        rw [show wrap64 (8 * (a0.size : Int)) = 8 * (a0.size : Int) by unfold wrap64; omega]
        simp only [IntKind.wrap, IntKind.bits, IntKind.signed]; simp; omega
      go_wp2
      clear hN hs64 hne hi HZ HI HGG
      have HL8 := Aside0.mk (dg.l8_length (8 * (a0.size : Int)))
      have HM := Aside0.mk (show a0.size + 1 + dg.pad a0 ≤ 1000100 by have := HS.out; have := HPL.out; omega)
      have HPre := Aside0.mk (dg.pre_length a0 (dg.pad a0))
      have HV0 := Aside0.mk (show dg.Bw w.heap.size wr (.slice (some ⟨g, 0, none⟩) (a0.size + 1 + dg.pad a0 + 0) cap) (dg.pre a0 (dg.pad a0) ++ dg.l8 (8 * (a0.size : Int)) 0) from by rw [dg.l8, List.append_nil]; exact HV.out)
      generalize (((a0.size : Int) + 1 + (dg.pad a0 : Int)) % 64 != 56) = bb
      simp only [Nat.add_zero]
      go_loopg [3, 5] 8 (fun gg v3 v5 wr => ∃ (j g cap : Nat), v3 = .slice (some ⟨g, 0, none⟩) (a0.size + 1 + dg.pad a0 + j) cap ∧ v5 = .int .i64 (56 - 8 * (j : Int)) ∧ Aside0 (j ≤ 8) ∧ Aside0 (8 ≤ j + gg) ∧ Aside0 (dg.Bw w.heap.size wr (.slice (some ⟨g, 0, none⟩) (a0.size + 1 + dg.pad a0 + j) cap) (dg.pre a0 (dg.pad a0) ++ dg.l8 (8 * (a0.size : Int)) j)) ∧ Aside0 (Below w.heap.size w wr))
      case atStart => exact ⟨0, g, cap, rfl, rfl, ⟨by decide⟩, ⟨by decide⟩, by rw [Nat.add_zero] at HV0; exact HV0, HB⟩
      case round =>
        clear HV HB HV0
        obtain ⟨j, g, cap, rfl, rfl, HI, HGG, HV, HB⟩ := hrel
        have HZ := Aside0.mk HB.out.size
        by_cases hj : j < 8
        · have hge : (0 : Int) ≤ 56 - 8 * (j : Int) := by omega
          have hge' : (8 * (j : Int)) ≤ 56 := by omega
          have hw : IntKind.u64.wrap (56 - 8 * (j : Int)) = 56 - 8 * (j : Int) := by simp only [IntKind.wrap, IntKind.bits, IntKind.signed]; simp; omega
          have HLT := Aside0.mk hj
          go_wp2_with (at_builtin; refine dg.append_b (W := wr) w.heap.size HZ.out rfl _ _ rfl (dg.pre a0 (dg.pad a0) ++ dg.l8 (8 * (a0.size : Int)) j) [8 * (a0.size : Int) / 2 ^ (56 - 8 * j) % 256] 1 1 _ ?z1 rfl ?z3 ?z4 ?zn (by decide) ?zK)
          case z1 => rfl
          case z3 => show dg.Bw _ _ (.slice (some ⟨g, 0, none⟩) (a0.size + 1 + dg.pad a0 + j) cap) _; exact HV.out
          case z4 => rfl
          case zn => have := HM.out; rw [List.length_append, HPre.out, HL8.out]; omega
          intro v1 w2 hv1 hb1
          obtain ⟨g1, cap1, hv, hv2⟩ := hv1
          have hv1 : dg.Bw w.heap.size w2 v1 (dg.pre a0 (dg.pad a0) ++ dg.l8 (8 * (a0.size : Int)) (j + 1)) := ⟨g1, cap1, hv, hv2⟩
          have hlen : (dg.pre a0 (dg.pad a0) ++ (dg.l8 (8 * (a0.size : Int)) j ++ [8 * (a0.size : Int) / 2 ^ (56 - 8 * j) % 256])).length = a0.size + 1 + dg.pad a0 + (j + 1) := by
            rw [List.length_append, List.length_append, HPre.out, HL8.out]; rfl
          rw [hlen] at hv
          subst hv
          have HV2 := Aside0.mk hv1
          have HB2 := Aside0.mk (HB.out.trans hb1)
          clear hv1 hb1 hv2 HV HB hlen hw hge hge'
          go_wp2
          go_roundg (8 - (j + 1))
          case measure => have := HGG.out; have := HLT.out; omega
          case rel => exact ⟨j + 1, g1, cap1, rfl, by rw [show (56 : Int) - 8 * ((j + 1 : Nat) : Int) = 56 - 8 * (j : Int) - 8 by omega], ⟨by have := HLT.out; omega⟩, ⟨by omega⟩, HV2, HB2⟩
        · obtain rfl : j = 8 := by have := HI.out; omega
          have hlt : ¬ (0 : Int) ≤ 56 - 8 * ((8 : Nat) : Int) := by decide
          have hend : (56 : Int) - 8 * ((8 : Nat) : Int) = -8 := by decide
          clear HI HGG hj HL8 HPre
          go_wp2_with (go_at_call 54; (with_reducible refine (spec_l02Start.calls dg.start _ rfl).mono ?_); rintro e w2 ⟨v0, rfl, hr, hb⟩; obtain ⟨A0, c0, rfl⟩ := Kd.R_slice hr; have HR := Aside0.mk (Kd.R_reads' hr).2.2; have HC := Aside0.mk (Kd.R_reads' hr).2.1; have HB2 := Aside0.mk (HB.out.trans (Below.trans_le_ hb HZ.out)); have HV3 := Aside0.mk (dg.Bw_below HV.out hb); clear hr hb HV HB)
          obtain ⟨NB, hNB⟩ : ∃ NB, a0.size + 1 + dg.pad a0 + 8 = 64 * NB := ⟨(a0.size + 1 + dg.pad a0 + 8) / 64, by have := HPD.out; omega⟩
          obtain ⟨L, hL⟩ : ∃ L, L = dg.pre a0 (dg.pad a0) ++ dg.l8 (8 * (a0.size : Int)) 8 := ⟨_, rfl⟩
          have HLL := Aside0.mk (show L.length = 64 * NB by rw [hL, List.length_append, dg.pre_length, dg.l8_length, ← hNB])
          have HLT := Aside0.mk (show strOfNums L = dg.all a0 by rw [hL]; exact dg.all_eq a0)
          have HSZ := Aside0.mk (show (dg.all a0).size / 64 = NB by rw [← HLT.out, strOfNums_size, HLL.out]; omega)
          have HNM := Aside0.mk (show NB ≤ 20000 by have := HM.out; omega)
          rw [← hL, hNB] at HV3
          clear hL
          rw [hNB]
          have hNBc : ((a0.size : Int) + 1 + (dg.pad a0 : Int) + 8) = 64 * (NB : Int) := by omega
          clear hNB HM HPL HPD HS
          go_loopg [6, 7] NB (fun gg v6 v7 wr => ∃ (i c : Nat) (A : Option Addr), v6 = .slice A 8 c ∧ v7 = .int .i64 ((64 * i : Nat) : Int) ∧ Aside0 (i ≤ NB) ∧ Aside0 (NB ≤ i + gg) ∧ Aside0 (Kd.C (Kd.int .i64) wr A 8 (dg.after (dg.all a0) i)) ∧ Aside0 (8 ≤ c) ∧ Aside0 (dg.Bw w.heap.size wr (.slice (some ⟨g, 0, none⟩) (64 * NB) cap) L) ∧ Aside0 (Below w.heap.size w wr))
          case atStart => exact ⟨0, c0, A0, rfl, rfl, ⟨Nat.zero_le _⟩, ⟨by omega⟩, HR, HC, HV3, HB2⟩
          case round =>
            clear HR HC HV3 HB2
            obtain ⟨i, c, A, rfl, rfl, HI, HGG, HR, HC, HV, HB⟩ := hrel
            by_cases hi : i < NB
            · have hlt : (64 * (i : Int)) < 64 * (NB : Int) := by omega
              have HLT2 := Aside0.mk hi
              obtain ⟨g', cap', hv, _, hcap, _⟩ := HV.out
              rw [HLL.out] at hcap
              obtain ⟨rfl, rfl⟩ : g' = g ∧ cap' = cap := by injection hv with h1 h2 h3; injection h1 with h1; injection h1 with h1; exact ⟨h1.symm, h3.symm⟩
              clear hv
              have hw64 : wrap64 (64 * (i : Int) + 64) = 64 * (i : Int) + 64 := by have := HNM.out; unfold wrap64; omega
              have hc1 : 64 * (i : Int) + 64 ≤ (cap' : Int) := by omega
              have hc2 : ¬ (cap' = 64 * i) := by omega
              have hc3 : (64 * (i : Int)) ≤ max (64 * (i : Int) + 64) 0 := by omega
              have htn : (64 * (i : Int) + 64).toNat - 64 * i = 64 := by omega
              have hstr := dg.str HV.out (g := g') rfl (64 * i) 64 (cap' - 64 * i) (by rw [HLL.out]; omega)
              rw [dg.cut L (64 * i) 64 (by rw [HLL.out]; omega), HLT.out] at hstr
              have HTS := Aside0.mk (show 64 * i + 64 ≤ (dg.all a0).size by rw [← HLT.out, strOfNums_size, HLL.out]; omega)
              have HSTEP := Aside0.mk (fun W hr => dg.turn (dg.all a0) i c A W hr HC.out HTS.out)
              generalize (dg.all a0).extract (64 * i) (64 * i + 64) = bb2 at hstr HSTEP
              go_wp2_with (go_at_call 55; (with_reducible refine (HSTEP.out _ HR.out).mono ?_); rintro e w3 ⟨A2, c2, rfl, hc2, hr2, hb2⟩; have HR2 := Aside0.mk hr2; have HC2 := Aside0.mk hc2; have HV2 := Aside0.mk (dg.Bw_below HV.out hb2); have HB2 := Aside0.mk (HB.out.trans (Below.trans_le_ hb2 HB.out.size)); clear hr2 hc2 hb2 HR HV HB)
              go_roundg (NB - (i + 1))
              case measure => have := HGG.out; have := HLT2.out; omega
              case rel => exact ⟨i + 1, c2, A2, rfl, by rw [show ((64 * (i + 1) : Nat) : Int) = 64 * (i : Int) + 64 by omega, hw64], ⟨by have := HLT2.out; omega⟩, ⟨by omega⟩, HR2, HC2, HV2, HB2⟩
            · obtain rfl : i = NB := by have := HI.out; omega
              go_wp2
              obtain ⟨wx, hwx⟩ : ∃ wx, wx = wr := ⟨_, rfl⟩
              rw [← hwx] at HR HB ⊢
              clear hwx
              have HV5 := Aside0.mk (dg.Bw_empty wx.heap.size wx (Nat.le_refl _))
              have HB5 := Aside0.mk (below_alloc (Below.refl wx.heap.size wx) (.cells #[] 5))
              have HX := Aside0.mk (dg.after_length (dg.all a0) i)
              have HRG := Aside0.mk (dg.after_range (dg.all a0) i)
              have HE := Aside0.mk (show dg.text (dg.after (dg.all a0) ((dg.all a0).size / 64)) 8 = dg.text (dg.after (dg.all a0) i) 8 by rw [HSZ.out])
              generalize dg.after (dg.all a0) i = S at HR HX HRG HE
              generalize wx.alloc (.cells #[] 5) = W9 at HV5 HB5
              clear HV HC HSZ HLL HLT HNM HI HGG
              go_loopg [8, 9] 8 (fun gg v8 v9 wr => ∃ (i g cap : Nat), v8 = .slice (some ⟨g, 0, none⟩) (4 * i) cap ∧ v9 = .int .i64 (i : Int) ∧ Aside0 (i ≤ 8) ∧ Aside0 (8 ≤ i + gg) ∧ Aside0 (dg.Bw wx.heap.size wr (.slice (some ⟨g, 0, none⟩) (4 * i) cap) (dg.ol S i)) ∧ Aside0 (Below wx.heap.size wx wr))
              case atStart => exact ⟨0, _, _, rfl, rfl, ⟨by decide⟩, ⟨by decide⟩, HV5, HB5⟩
              case round =>
                clear HV5 HB5
                obtain ⟨i, g, cap, rfl, rfl, HI, HGG, HV, HBX⟩ := hrel
                have HZ := Aside0.mk HBX.out.size
                by_cases hi : i < 8
                · have hlt : ((i : Nat) : Int) < 8 := by omega
                  have h0 : (0 : Int) ≤ (i : Int) := by omega
                  have hi8 : i < 8 := hi
                  obtain ⟨ad, rfl, hx⟩ := Kd.at_int (Kd.C_below HR.out HBX.out) (i : Int) h0 hlt
                  rw [Int.toNat_natCast] at hx
                  have HLT := Aside0.mk hi
                  go_wp2_with (at_builtin; refine dg.append_b (W := wr) wx.heap.size HZ.out rfl _ _ rfl (dg.ol S i) [rd S (i : Int) / 16777216 % 256, rd S (i : Int) / 65536 % 256, rd S (i : Int) / 256 % 256, rd S (i : Int) % 256] 4 4 _ ?u1 rfl ?u3 ?u4 ?un (by decide) ?uK)
                  case u1 => rfl
                  case u3 => show dg.Bw _ _ (.slice (some ⟨g, 0, none⟩) (4 * i) cap) _; exact HV.out
                  case u4 => rfl
                  case un => rw [dg.ol_length]; omega
                  intro v1 w2 hv1 hb1
                  obtain ⟨g1, cap1, hv, hv2⟩ := hv1
                  have hv1 : dg.Bw wx.heap.size w2 v1 (dg.ol S (i + 1)) := ⟨g1, cap1, hv, hv2⟩
                  have hlen : (dg.ol S i ++ [rd S (i : Int) / 16777216 % 256, rd S (i : Int) / 65536 % 256, rd S (i : Int) / 256 % 256, rd S (i : Int) % 256]).length = 4 * (i + 1) := dg.ol_length S (i + 1)
                  rw [hlen] at hv
                  subst hv
                  have HV2 := Aside0.mk hv1
                  have HB2 := Aside0.mk (HBX.out.trans hb1)
                  clear hv1 hb1 hv2 HV HBX hlen hx HR
                  go_wp2
                  go_roundg (8 - (i + 1))
                  case measure => have := HGG.out; have := HLT.out; omega
                  case rel => exact ⟨i + 1, g1, cap1, rfl, by first | rfl | rw [show wrap64 ((i : Int) + 1) = ((i + 1 : Nat) : Int) by unfold wrap64; omega], ⟨by have := HLT.out; omega⟩, ⟨by omega⟩, HV2, HB2⟩
                · obtain rfl : i = 8 := by have := HI.out; omega
                  have hstr := dg.str HV.out rfl 0 32 cap (by rw [dg.ol_length]; decide)
                  go_wp2
                  go_ret
                  refine ⟨?_, HB.out.trans (Below.trans_le_ HBX.out HB.out.size)⟩
                  rw [HE.out]
                  show Ending.returned (Value.string (strOfNums (List.take 32 (dg.ol S 8)))) = _
                  rw [List.take_of_length_le (by rw [dg.ol_length]; decide), dg.ol_text S HRG.out 8]

end Go.Proofs.YtldhjbjbjoomcaaDoor.Q
