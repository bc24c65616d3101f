/- A drawn number is got back from its encoding, which is short, and a drawn text from its; without the last byte each is too short; the program encodes as the reference does. -/
import Derived.Test.YtbjcancgkfaapaaTrip
import Derived.Test.YtbjcancgkfaapaaDrawAny
import Derived.Test.YtbjcancgkfaapaaDrawBytes
import Derived.Test.YtbjcancgkfaapaaQx10
import Derived.Test.YtbjcancgkfaapaaQx7
import Derived.Test.YtbjcancgkfaapaaQx9
namespace Go.Proofs.Ytbjcancgkfaapaa.Pure
set_option linter.unusedVariables false
set_option linter.unusedSimpArgs false
open Go Go.RowKit Go.Proofs.Ytbjcancgkfaapaa.Q Go.Proofs.YtbjcancgkfaapaaW.PrintWords Go.Proofs.YtbjcancgkfaapaaW.PrintLast Go.Proofs.YtbjcancgkfaapaaW.PrintMore
theorem draw_PutNum (l : List Int) (h : l.length ≤ 1048576) : ∃ n, Ev (fun k => spec_DrawPutNum.f k l) n ∧ (Lit.int .i64 n).wf = true := by
  unfold spec_DrawPutNum.f
  obtain ⟨m, s, _, _, hs, e0⟩ := draw_source l h
  obtain ⟨n, i1, m1, e1, _, a, c⟩ := draw_any l 0 m s hs
  refine ⟨n, Ev.bind e0 ?_, by simp [Lit.wf, IntKind.min, IntKind.max, IntKind.signed, IntKind.bits]; omega⟩
  simp only [e1, Option.bind_some]; exact Ev.now _
theorem draw_PutText (l : List Int) (h : l.length ≤ 1048576) : ∃ t, Ev (fun k => spec_DrawPutText.f k l) t ∧ t.size ≤ 1000000 := by
  unfold spec_DrawPutText.f
  obtain ⟨m, s, _, _, hs, e0⟩ := draw_source l h
  obtain ⟨r1, i1, m1, e1, s1⟩ := draw_one l 0 m s 8 hs (by omega)
  obtain ⟨r2, i2, m2, e2, s2, a2, _, c2⟩ := draw_n l i1 m1 s 3 s1 (by omega)
  obtain ⟨r3, i3, m3, e3, s3, a3, _, c3⟩ := draw_n l i1 m1 s 20 s1 (by omega)
  have c2 := c2 (by omega)
  have c3 := c3 (by omega)
  by_cases g : r1 = true
  · refine ⟨strOfNums (List.replicate (19999 + r2).toNat 0), Ev.bind e0 ?_, by rw [strOfNums_size, List.length_replicate]; omega⟩
    simp only [e1, Option.bind_some, if_pos g, e2]
    rw [wrap64_id (n := 19999 + r2) (by omega) (by omega), if_pos (by omega), if_pos (by omega)]
    exact Ev.now _
  · obtain ⟨t, i4, m4, e4, _, l4⟩ := draw_bytes l i3 m3 s r3 a3 (by omega) s3
    refine ⟨t, Ev.bind e0 ?_, by omega⟩
    simp only [e1, Option.bind_some, if_neg g, e3]
    exact Ev.bind e4 (Ev.now _)
theorem implPutNum {n : Int} (hn : (Lit.int .i64 n).wf = true) : Ev (fun k => impl_PutNum.f k n) (putN n) := by
  unfold impl_PutNum.f
  exact Ev.bind (implPut hn) (Ev.now _)
theorem implGetNum (t : ByteArray) (a : Int) (h : t.size ≤ 8000) (ha : 0 ≤ a) : Ev (fun k => impl_GetNum.f k t a) (getM t a) := by
  unfold impl_GetNum.f
  simp only [if_neg (show ¬ (t.size : Int) > 8000 by omega)]
  have := implGet t a (by omega)
  rw [if_neg (by omega)] at this
  exact Ev.bind this (Ev.now _)
theorem implGetTextOut (t : ByteArray) (a : Int) (h : t.size ≤ 8000) : Ev (fun k => impl_GetText.f k t a) (getTextM t a) := by
  unfold impl_GetText.f
  simp only [if_neg (show ¬ (t.size : Int) > 8000 by omega)]
  exact Ev.bind (implGetText t a (by omega)) (Ev.now _)
theorem wf_nat {n : Nat} (h : n ≤ 1000000) : (Lit.int .i64 (n : Int)).wf = true := by simp [Lit.wf, IntKind.min, IntKind.max, IntKind.signed, IntKind.bits]; omega
theorem getText_put (p t : ByteArray) (h : t.size ≤ 8000) : getTextM (p ++ (putN t.size ++ t)) (p.size : Int) = (t, (p.size : Int) + (putN t.size ++ t).size, 0) := by
  have hg := get_put p t (wf_nat (n := t.size) (by omega))
  rw [ByteArray.append_assoc] at hg
  unfold getTextM
  have hs : ((p ++ (putN t.size ++ t)).size : Int) = p.size + (putN t.size).size + t.size := by rw [ByteArray.size_append, ByteArray.size_append]; omega
  have hs2 : ((putN t.size ++ t).size : Int) = (putN t.size).size + t.size := by rw [ByteArray.size_append]; omega
  rw [if_neg (by omega), hg]
  simp only [if_true]
  rw [if_neg (by omega), if_neg (by omega), hs2]
  rw [← ByteArray.append_assoc, ByteArray.extract_append_eq_right (by rw [ByteArray.size_append]; omega) (by rw [ByteArray.size_append]; omega)]
  congr 2
  omega
theorem append_nil' (a : ByteArray) : a ++ (⟨#[]⟩ : ByteArray) = a := toList_inj (by rw [toList_data, toList_data, ByteArray.data_append, Array.toList_append, List.append_nil])
theorem getText_cut (t : ByteArray) (h : t.size ≤ 8000) (m : Nat) (hm : m + 1 = (putN t.size ++ t).size) : (getTextM ((putN t.size ++ t).extract 0 m) 0).2.2 = 4 := by
  have hw := wf_nat (n := t.size) (by omega)
  have hz := putN_size hw
  have hs : ((putN t.size ++ t).extract 0 m).size = m := by rw [ByteArray.size_extract]; omega
  rw [ByteArray.size_append] at hm
  unfold getTextM
  rw [if_neg (by omega)]
  by_cases g : t.size = 0
  · have e : (putN t.size ++ t).extract 0 m = (putN t.size).extract 0 m := by
      have : t = ⟨#[]⟩ := by
        cases t with
        | mk d => have g' : d.size = 0 := g
                  rw [Array.eq_empty_of_size_eq_zero g']
      rw [this, append_nil']
    rw [e]
    have := cut_put hw m (by omega)
    rw [if_neg (by rw [this]; decide), this]
  · have st : Stands ((putN t.size ++ t).extract 0 m) 0 (putU (zig (t.size : Int))) := by
      have hl := putN_len hw
      refine ⟨by omega, fun j hj => ?_⟩
      rw [show (0 : Int) + (j : Int) = (j : Int) by omega, bt_take _ _ _ (by omega), bt_app_left _ _ _ (by omega), bt_bl, bl_putN hw]
    have := getM_put _ 0 (t.size : Int) (by omega) hw st
    have hl := putN_len hw
    rw [this]
    simp only [if_true]
    rw [if_neg (by omega), if_pos (by omega)]
theorem FnNums : laws_FnNums.Pure := by
  intro l0 l1 _ _ _ _ _ _
  refine Ev.rounds ?_
  unfold laws_FnNums.f
  have key : Ev (fun k => laws_FnNums.j0 k l0 l1 (decide (l0.length > 1048576 ∨ l1.length > 1048576))) true := by
    by_cases g : l0.length > 1048576 ∨ l1.length > 1048576
    · rw [decide_eq_true g]; exact Ev.step (fun k => by rw [laws_FnNums.j0, if_pos rfl]) (Ev.now _)
    · rw [decide_eq_false g]
      obtain ⟨n, e0, hn⟩ := draw_PutNum l0 (by omega)
      have hz := putN_size hn
      refine Ev.step (fun k => by rw [laws_FnNums.j0, if_neg (by decide)]) (Ev.bind e0 (Ev.bind (implPutNum hn) (Ev.bind (specPut hn) ?_)))
      simp only [if_true, if_neg (show ¬ ((putN n).size : Int) < 1 by omega), decide_eq_false (show ¬ ((putN n).size : Int) > 10 by omega)]
      have hcat : ((⟨#[120, 121]⟩ : ByteArray) ++ putN n).size = 2 + (putN n).size := by rw [ByteArray.size_append]; rfl
      have hcat2 : (((⟨#[120, 121]⟩ : ByteArray) ++ putN n) ++ (⟨#[122]⟩ : ByteArray)).size = 3 + (putN n).size := by rw [ByteArray.size_append, hcat]; show 2 + (putN n).size + 1 = _; omega
      have hg := get_put (⟨#[120, 121]⟩ : ByteArray) (⟨#[122]⟩ : ByteArray) hn
      have h2 : (((⟨#[120, 121]⟩ : ByteArray).size : Nat) : Int) = 2 := rfl
      rw [h2] at hg
      have e1 := implGetNum (((⟨#[120, 121]⟩ : ByteArray) ++ putN n) ++ (⟨#[122]⟩ : ByteArray)) 2 (by omega) (by omega)
      rw [hg] at e1
      have hc := cut_put hn ((putN n).size - 1) (by omega)
      have e2 := implGetNum ((putN n).extract 0 ((putN n).size - 1)) 0 (by rw [ByteArray.size_extract]; omega) (by omega)
      refine Ev.step (fun k => by rw [laws_FnNums.j1, if_neg (by decide), if_pos (by omega), if_pos (by omega)]) (Ev.bind e1 ?_)
      have hcond : (!(n == n) || (!((2 : Int) + (putN n).size == wrap64 (((putN n).size : Int) + 2)) || (!((0 : Int) == 0)))) = false := by
        rw [wrap64_id (by omega) (by omega), Int.add_comm]; simp
      simp only [hcond, Bool.false_eq_true, if_false]
      rw [wrap64_id (n := ((putN n).size : Int) - 1) (by omega) (by omega)]
      simp only [if_pos (show (0 : Int) ≤ ((putN n).size : Int) - 1 by omega), if_pos (show ((putN n).size : Int) - 1 ≤ ((putN n).size : Int) by omega), show (((putN n).size : Int) - 1).toNat = (putN n).size - 1 by omega]
      refine Ev.bind e2 ?_
      rw [hc]
      obtain ⟨t, e3, ht⟩ := draw_PutText l1 (by omega)
      have hw := wf_nat (n := t.size) ht
      have hz2 := putN_size hw
      have i3 : Ev (fun k => impl_PutText.f k t) (if (t.size : Int) > 8000 then ⟨#[]⟩ else putN t.size ++ t) := by
        unfold impl_PutText.f
        by_cases g2 : (t.size : Int) > 8000
        · simp only [if_pos g2]; exact Ev.now _
        · simp only [if_neg g2]
          exact Ev.bind (a := putN t.size ++ t) (by unfold impl_putText.f; exact Ev.bind (implPut hw) (Ev.const (if_pos (by omega)))) (Ev.now _)
      have s3 : Ev (fun k => spec_PutText.f k t) (if (t.size : Int) > 8000 then ⟨#[]⟩ else putN t.size ++ t) := by
        unfold spec_PutText.f
        by_cases g2 : (t.size : Int) > 8000
        · simp only [if_pos g2]; exact Ev.now _
        · simp only [if_neg g2]
          exact Ev.bind (specPut hw) (Ev.const (if_pos (by omega)))
      refine Ev.step (fun k => by rw [laws_FnNums.j2, if_neg (by decide)]) (Ev.bind e3 (Ev.bind i3 (Ev.bind s3 ?_)))
      simp only [if_true]
      by_cases g2 : (t.size : Int) > 8000
      · simp only [if_pos g2] at s3 ⊢
        rw [show ((⟨#[]⟩ : ByteArray).toList == ([] : List UInt8)) = true by rw [empty_toList]; rfl]
        refine Ev.step (fun k => by rw [laws_FnNums.j3, if_pos rfl]) (Ev.bind s3 ?_)
        rw [show ((⟨#[]⟩ : ByteArray).toList == (⟨#[]⟩ : ByteArray).toList) = true by simp]
        exact Ev.now _
      · simp only [if_neg g2]
        have hs : (putN t.size ++ t).size = (putN t.size).size + t.size := ByteArray.size_append
        have hne : ((putN t.size ++ t).toList == ([] : List UInt8)) = false := by
          rw [beq_eq_false_iff_ne]
          intro h
          rw [toList_data] at h
          have := congrArg List.length h
          rw [Array.length_toList] at this
          have h5 : (putN t.size ++ t).data.size = (putN t.size ++ t).size := rfl
          simp only [List.length_nil] at this
          omega
        rw [hne]
        refine Ev.step (fun k => by rw [laws_FnNums.j3, if_neg (by decide)]) ?_
        rw [wrap64_id (n := ((putN t.size ++ t).size : Int) + 1) (by omega) (by omega)]
        by_cases g3 : ((putN t.size ++ t).size : Int) + 1 > 8000
        · simp only [if_pos g3]; exact Ev.now _
        · simp only [if_neg g3, if_pos (show 1 + (putN t.size ++ t).size ≤ 9223372036854775807 by omega)]
          have h1 : (((⟨#[120]⟩ : ByteArray).size : Nat) : Int) = 1 := rfl
          have hgt := getText_put (⟨#[120]⟩ : ByteArray) t (by omega)
          rw [h1] at hgt
          have hsz : ((⟨#[120]⟩ : ByteArray) ++ (putN t.size ++ t)).size = 1 + (putN t.size ++ t).size := by rw [ByteArray.size_append]; rfl
          have e4 := implGetTextOut ((⟨#[120]⟩ : ByteArray) ++ (putN t.size ++ t)) 1 (by omega)
          rw [hgt] at e4
          refine Ev.bind e4 ?_
          have hcc : (t.toList == t.toList && ((1 : Int) + (putN t.size ++ t).size == ((putN t.size ++ t).size : Int) + 1 && ((0 : Int) == 0))) = true := by
            rw [Int.add_comm]; simp
          simp only [hcc, if_true]
          rw [wrap64_id (n := ((putN t.size ++ t).size : Int) - 1) (by omega) (by omega)]
          simp only [if_pos (show (0 : Int) ≤ ((putN t.size ++ t).size : Int) - 1 by omega), if_pos (show ((putN t.size ++ t).size : Int) - 1 ≤ ((putN t.size ++ t).size : Int) by omega), show (((putN t.size ++ t).size : Int) - 1).toNat = (putN t.size ++ t).size - 1 by omega]
          have hcut := getText_cut t (by omega) ((putN t.size ++ t).size - 1) (by omega)
          have e5 := implGetTextOut ((putN t.size ++ t).extract 0 ((putN t.size ++ t).size - 1)) 0 (by rw [ByteArray.size_extract]; omega)
          refine Ev.bind e5 ?_
          rw [hcut]; exact Ev.now _
  by_cases h : (l0.length : Int) > 1048576
  · simp only [if_pos h]
    rw [decide_eq_true (show l0.length > 1048576 ∨ l1.length > 1048576 by omega)] at key; exact key
  · simp only [if_neg h]
    have e : decide (l0.length > 1048576 ∨ l1.length > 1048576) = decide ((l1.length : Int) > 1048576) := by rw [Bool.eq_iff_iff]; simp only [decide_eq_true_eq]; omega
    rw [e] at key; exact key
end Go.Proofs.Ytbjcancgkfaapaa.Pure
