/- The row of the law FnExactMetaActs, out of its pure statement and the printed function: for every input the law returns true, and each argument reads behind the call as it read before. -/
import Derived.Test.YtibnmnkembbgeaaRows
import Derived.Test.YtibnmnkembbgeaaKFnExactMetaActsP
import Derived.WalkKit
import Derived.ProofKit
import Derived.OpenShut
import Derived.ShutString
import Derived.ChangeOld
import Derived.Below
import Derived.SizedLaws
namespace Go.Proofs.Ytibnmnkembbgeaa.fnExactMetaActs
open Go.ChangeShapes Go.WideShapes Go.ChangeAt Go.RowKit Go.Proofs.Ytibnmnkembbgeaa.Q Go.Proofs.Ytibnmnkembbgeaa.Open Go.Proofs.YtibnmnkembbgeaaW.PrintWords
open Go.ChangeMaps (open_string shut_string)
set_option linter.unusedVariables false
theorem own : ownKnob Try.prog.godebug = none := by kernel_rfl
theorem laidOut : laidOutB Try.prog = true := by kernel_rfl
def kp0 : Kd (List ByteArray × List S132) := Kd.iso (Kd.pair (Kd.slice 9 Kd.string) (Kd.slice 132 k132)) id
theorem op0 : Opens kp0 (fun x => (okList okStr) x.1 ∧ (okList (fun x : S132 => (okInt .i64) x.f0 ∧ okStr x.f1)) x.2) Try.prog 25 := opens_struct (d := (Kd.pair (Kd.slice 9 Kd.string) (Kd.slice 132 k132))) id id (fun _ => rfl) Try.underlying25 (by kernel_rfl) (opensFs_cons rfl (by kernel_rfl) (opens_slice ByteArray.empty Try.underlying22 (by kernel_rfl) (opens_string Try.underlying9)) (opensFs_one rfl (by kernel_rfl) (opens_slice z132 Try.underlying23 (by kernel_rfl) (opens_struct (d := (Kd.pair (Kd.int .i64) Kd.string)) (fun x : S132 => (x.f0, x.f1)) (fun a => ⟨a.1, a.2⟩) (fun _ => rfl) Try.underlying132 (by kernel_rfl) (opensFs_cons rfl (by kernel_rfl) (opens_int Try.underlying2) (opensFs_one rfl (by kernel_rfl) (opens_string Try.underlying9)))))))
set_option maxRecDepth 100000 in
theorem lifted (os : Os) (started : os.Started) (H : Type) (enc : TypeId × Value → H) :
    ReturnsInHanded {} Try.checked os 11 .any (Rows.fnExactMetaActsSpec.pre6 enc Try.prog Try.f11 Rows.fnExactMetaActsRow.domain false) (Rows.fnExactMetaActsSpec.post enc Try.prog Try.f11 false true false false) := by
  refine returnsInHanded_of_change_sized (C := Try.checked) own started (by kernel_rfl) Try.func11
    (ChangeSpec.witness6 (enc := enc) (C := Try.checked) false ⟨#[], #[.agg #[.slice none 0 0, .slice none 0 0], .string ByteArray.empty], []⟩ 8 (by kernel_rfl) (by kernel_rfl) (by kernel_rfl) (by kernel_rfl)) ?_
  intro W base args ds gs before hval0 hW hcnd hsz0 _
  have hval : ∀ (j : Nat) t v, Try.f11.params[j]? = some t → args[j]? = some v → Value.okWide Try.prog W .any base t v := hval0
  have hW' := hW
  obtain ⟨p, q, hA0, hV, rfl, hfz, hnd⟩ := hW
  have hA : DataW.TrodAll enc Try.prog W 0 (fun _ => true) true Try.f11.params.toList args.toList ds p := hA0
  rw [Try.params11] at hA hval
  obtain ⟨v0, vs0, d0, ds0, p0, q0, hargs, rfl, rfl, h0, r0⟩ := trodAll_cons hA
  obtain ⟨v1, vs1, d1, ds1, p1, q1, rfl, rfl, rfl, h1, r1⟩ := trodAll_cons r0
  obtain ⟨rfl, rfl, rfl⟩ := trodAll_nil r1
  obtain rfl : args = #[v0, v1] := by cases args; simp_all
  obtain ⟨rfl, rfl⟩ := trodVars_none hV
  have k0 := h0
  have lt0 : ∀ x ∈ p0, x.block < W.heap.size := by obtain ⟨m, hm⟩ := k0; exact DataW.trod_lt m _ _ _ hm
  obtain ⟨cs0, rfl, _⟩ := okWide_struct Try.underlying25 (hval 0 25 v0 rfl rfl)
  obtain ⟨x0, hK0, ok0⟩ : ∃ x, kp0.K W x cs0.toList ∧ ((okList okStr) x.1 ∧ (okList (fun x : S132 => (okInt .i64) x.f0 ∧ okStr x.f1)) x.2) := by obtain ⟨fuel, hf⟩ := h0; exact op0 H enc W 0 _ _ fuel _ _ hf
  obtain ⟨A0_0, c0_0, A0_1, c0_1, e0, hc0_0, hr0_0, hc0_1, hr0_1⟩ : ∃ A0_0 c0_0, ∃ A0_1 c0_1, cs0.toList = [.slice A0_0 x0.1.length c0_0, .slice A0_1 x0.2.length c0_1] ∧ x0.1.length ≤ c0_0 ∧ Kd.C Kd.string W A0_0 x0.1.length x0.1 ∧ x0.2.length ≤ c0_1 ∧ Kd.C k132 W A0_1 x0.2.length x0.2 := by
    have hK := hK0
    obtain ⟨u0, t0, e0, f0, g0⟩ := hK
    have f1 := g0
    obtain ⟨A0, c0, s0, hc0, hr0⟩ := f0
    obtain ⟨A1, c1, s1, hc1, hr1⟩ := f1
    refine ⟨A0, c0, A1, c1, ?_, hc0, hr0, hc1, hr1⟩
    have z : ∀ (a b : List Value), a = b → a = b := fun _ _ h => h
    first | (rw [e0, show u0 = _ from s0, show t0 = _ from s1]; rfl) | skip
  obtain rfl : cs0 = #[.slice A0_0 x0.1.length c0_0, .slice A0_1 x0.2.length c0_1] := by cases cs0; simpa using e0
  obtain ⟨a1, rfl, rfl, rfl, y1⟩ := open_string Try.underlying9 (hval 1 9 v1 rfl rfl) h1
  clear hA0 hval0 hsz0
  obtain ⟨k, hk⟩ := Pure.FnExactMetaActs x0.1 x0.2 a1 ok0 y1
  refine (laws_FnExactMetaActs.calls k _ _ x0.1 _ _ x0.2 a1 true W hr0_0 hc0_0 hr0_1 hc0_1 hk).mono ?_
  rintro e W' ⟨rfl, bel0⟩
  have bel : Below W.heap.size W W' := bel0
  exact ⟨_, rfl, _, _, _, [], _, [], hW', trodAll_mk1 (shut_bool Try.underlying4 _), (trodAll_cons_mk (Below.trod laidOut (by kernel_rfl) (of_decide_eq_true (by kernel_rfl)) k0 bel lt0) (trodAll_cons_mk (shut_string Try.underlying9 y1) trodAll_mk0)), rfl, bel.frame _, fun h => by cases h⟩
theorem over : Rows.fnExactMetaActsRow.holds Try.pinned (OpenSpec.ofChange Rows.fnExactMetaActsSpec) :=
  OpenClaim.holds_of_wide 11 Try.f11 rfl rfl rfl rfl rfl rfl rfl ⟨rfl, rfl, rfl, rfl, rfl⟩ rfl rfl rfl rfl rfl (by kernel_rfl) Try.func11 (by kernel_rfl)
    (of_decide_eq_true (by kernel_rfl)) (by unfold Func.isWrapper; first | (rw [if_pos (by decide +kernel)]; kernel_rfl) | (rw [if_neg (by decide +kernel)]; exact ⟨rfl, rfl⟩))
    (fun os started H enc _ => lifted os started H enc)
theorem proved : Rows.FnExactMetaActsSaid := over
end Go.Proofs.Ytibnmnkembbgeaa.fnExactMetaActs
namespace Go.Proofs.Ytibnmnkembbgeaa
theorem fnExactMetaActs_holds : Rows.FnExactMetaActsSaid := fnExactMetaActs.proved
end Go.Proofs.Ytibnmnkembbgeaa
