import Derived.Lib.Bytealg
import Derived.Test.YtldhjbjbjoomcaaDoorDgAll
import Derived.Test.YtldhjbjbjoomcaaDoorQx0
import Derived.Test.YtldhjbjbjoomcaaDoorQx1
import Derived.Test.YtldhjbjbjoomcaaDoorQx2
import Derived.Test.YtldhjbjbjoomcaaDoorQx5
namespace Go.Proofs.YtldhjbjbjoomcaaDoor.Q
open Go.RowKit Go.Proofs.YtldhjbjbjoomcaaDoorW.PrintWords Go.Proofs.YtldhjbjbjoomcaaDoorW.PrintLast Go.Proofs.YtldhjbjbjoomcaaDoorW.PrintMore
attribute [local go_sem] max2_int min2_int max_two min_two max_three min_three max_four min_four Instr.field asAgg   -- for this text's walks alone
set_option linter.unusedVariables false
set_option linter.unusedSimpArgs false
def dg.digest (a0 : ByteArray) : ByteArray := if a0.size ≤ 8000 then dg.text (dg.after (dg.all a0) ((dg.all a0).size / 64)) 8 else ⟨#[]⟩
theorem dg.digest_f (a0 : ByteArray) (h : a0.size ≤ 8000) : impl_digest.f a0 = some (dg.digest a0) := by
  rw [impl_digest.f, if_pos (by omega), dg.digest, if_pos h]
theorem dg.digest_size (a0 : ByteArray) (h : a0.size ≤ 8000) : (dg.digest a0).size = 32 := by
  rw [dg.digest, if_pos h, dg.text_size]
set_option maxHeartbeats 8000000 in
theorem dg.spec_Digest (a0 : ByteArray) (w : World) : Calls Tryd.prog 7 #[.string a0] w fun e w' => e = .returned (.string (dg.digest a0)) ∧ Below w.heap.size w w' := by
  go_enter Tryd.func7, Tryd.ntmps7
  by_cases h : a0.size ≤ 8000
  · have h1 : ¬ ((a0.size : Int) > 8000) := by omega
    have h2 : (a0.size : Int) ≤ 8000 := by omega
    have HF := Aside0.mk (dg.digest_f a0 h)
    go_wp2_with (go_at_call 28; (with_reducible refine (spec_l02All.calls a0 _ _ HF.out).mono ?_); rintro e w2 ⟨rfl, hb⟩; have HB := Aside0.mk hb; clear hb)
    go_ret
    exact ⟨rfl, HB.out⟩
  · have h1 : (a0.size : Int) > 8000 := by omega
    have h2 : ¬ (a0.size : Int) ≤ 8000 := by omega
    go_wp2
    go_ret
    exact ⟨by rw [dg.digest, if_neg h]; rfl, Below.refl _ _⟩
set_option maxHeartbeats 8000000 in
theorem dg.impl_Digest (a0 : ByteArray) (w : World) (hG : dg.G w) : Calls Tryd.prog 8 #[.string a0] w fun e w' => e = .returned (.string (dg.digest a0)) ∧ Below w.heap.size w w' := by
  have HG := Aside0.mk hG
  clear hG
  go_enter Tryd.func8, Tryd.ntmps8
  by_cases h : a0.size ≤ 8000
  · have h1 : ¬ ((a0.size : Int) > 8000) := by omega
    have h2 : (a0.size : Int) ≤ 8000 := by omega
    have HF := Aside0.mk (dg.digest_f a0 h)
    go_wp2_with (go_at_call 29; (with_reducible refine (impl_digest.calls a0 _ _ HG.out HF.out).mono ?_); rintro e w2 ⟨rfl, hb⟩; have HB := Aside0.mk hb; clear hb)
    go_ret
    exact ⟨rfl, HB.out⟩
  · have h1 : (a0.size : Int) > 8000 := by omega
    have h2 : ¬ (a0.size : Int) ≤ 8000 := by omega
    go_wp2
    go_ret
    exact ⟨by rw [dg.digest, if_neg h]; rfl, Below.refl _ _⟩
set_option maxHeartbeats 8000000 in
theorem laws_FnExactDigest.calls (a0 : ByteArray) (w : World) (hG : dg.G w) : Calls Tryd.prog 3 #[.string a0] w fun e w' => e = .returned (.bool true) ∧ Below w.heap.size w w' := by
  have HG := Aside0.mk hG
  clear hG
  go_enter Tryd.func3, Tryd.ntmps3
  by_cases h : a0.size ≤ 1048576
  · have h1 : ¬ ((a0.size : Int) > 1048576) := by omega
    have h2 : (a0.size : Int) ≤ 1048576 := by omega
    go_wp2_with (first
      | (go_at_call 7; (with_reducible refine (dg.spec_Digest a0 _).mono ?_); rintro e w2 ⟨rfl, hb⟩; have HB := Aside0.mk hb; clear hb)
      | (go_at_call 8; (with_reducible refine (dg.impl_Digest a0 _ (dg.G_below HG.out HB.out)).mono ?_); rintro e w3 ⟨rfl, hb⟩; have HB3 := Aside0.mk (below_step HB.out hb); clear hb))
    go_ret
    exact ⟨rfl, HB3.out⟩
  · have h1 : (a0.size : Int) > 1048576 := by omega
    have h2 : ¬ (a0.size : Int) ≤ 1048576 := by omega
    go_wp2
    go_ret
    exact ⟨rfl, Below.refl _ _⟩
set_option maxHeartbeats 8000000 in
theorem laws_FnDigest.calls (k : Nat) (A0 : Option Addr) (c0 : Nat) (l0 : List Int) (t : ByteArray) (w : World) (hG : dg.G w) (hr0 : Kd.C (Kd.int .u8) w A0 l0.length l0) (hc0 : l0.length ≤ c0) (hd : l0.length ≤ 1048576 → spec_DrawDigest.f k l0 = some t ∧ t.size ≤ 8000) :
    Calls Tryd.prog 4 #[.slice A0 l0.length c0] w fun e w' => e = .returned (.bool true) ∧ Below w.heap.size w w' := by
  have HG := Aside0.mk hG
  have HR0 := Aside0.mk hr0
  have HC0 := Aside0.mk hc0
  have HD := Aside0.mk hd
  clear hG hr0 hc0 hd
  go_enter Tryd.func4, Tryd.ntmps4
  by_cases h : l0.length ≤ 1048576
  · have h1 : ¬ ((l0.length : Int) > 1048576) := by omega
    have h2 : (l0.length : Int) ≤ 1048576 := by omega
    have HF := Aside0.mk (HD.out h).1
    have hz : (dg.digest t).size = 32 := dg.digest_size t (HD.out h).2
    clear h
    generalize hdg : dg.digest t = d at hz
    have HDG := Aside0.mk hdg
    clear hdg
    go_wp2_with (first
      | (go_at_call 9; (with_reducible refine (spec_DrawDigest.calls k A0 c0 l0 _ _ HR0.out HC0.out HF.out).mono ?_); rintro e w2 ⟨rfl, hb⟩; have HB := Aside0.mk hb; have HB1 := Aside0.mk hb; clear hb)
      | (go_at_call 8; (with_reducible refine (dg.impl_Digest t _ (dg.G_below HG.out HB1.out)).mono ?_); rw [HDG.out]; rintro e w3 ⟨rfl, hb⟩; replace HB1 := Aside0.mk (below_step HB1.out hb); clear hb)
      | (go_at_call 7; (with_reducible refine (dg.spec_Digest t _).mono ?_); rw [HDG.out]; rintro e w4 ⟨rfl, hb⟩; replace HB1 := Aside0.mk (below_step HB1.out hb); clear hb))
    go_ret
    exact ⟨rfl, HB1.out⟩
  · have h1 : (l0.length : Int) > 1048576 := by omega
    have h2 : ¬ (l0.length : Int) ≤ 1048576 := by omega
    go_wp2
    go_ret
    exact ⟨rfl, Below.refl _ _⟩

end Go.Proofs.YtldhjbjbjoomcaaDoor.Q
