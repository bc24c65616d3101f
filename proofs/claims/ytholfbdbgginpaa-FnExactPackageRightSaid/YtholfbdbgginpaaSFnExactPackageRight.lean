/- The row of the law FnExactPackageRight, out of its pure statement and the printed function: for every input the law returns true, and each argument reads behind the call as it read before. -/
import Derived.Test.YtholfbdbgginpaaRows
import Derived.Test.YtholfbdbgginpaaKFnExactPackageRightP
import Derived.WalkKit
import Derived.ProofKit
import Derived.OpenShut
import Derived.ShutString
import Derived.ChangeOld
import Derived.Below
import Derived.SizedLaws
namespace Go.Proofs.Ytholfbdbgginpaa.fnExactPackageRight
open Go.ChangeShapes Go.WideShapes Go.ChangeAt Go.RowKit Go.Proofs.Ytholfbdbgginpaa.Q Go.Proofs.Ytholfbdbgginpaa.Open Go.Proofs.YtholfbdbgginpaaW.PrintWords
open Go.ChangeMaps (open_string shut_string)
set_option linter.unusedVariables false
theorem own : ownKnob Try.prog.godebug = none := by kernel_rfl
theorem laidOut : laidOutB Try.prog = true := by kernel_rfl
def kp0 : Kd (Int × ByteArray × List S23) := Kd.iso (Kd.pair (Kd.int .i64) (Kd.pair Kd.string (Kd.slice 23 k23))) id
theorem op0 : Opens kp0 (fun x => (okInt .i64) x.1 ∧ okStr x.2.1 ∧ (okList (fun x : S23 => (okInt .i64) x.f0 ∧ (okInt .i64) x.f1 ∧ (okInt .i64) x.f2 ∧ okStr x.f3)) x.2.2) Try.prog 49 := opens_struct (d := (Kd.pair (Kd.int .i64) (Kd.pair Kd.string (Kd.slice 23 k23)))) id id (fun _ => rfl) Try.underlying49 (by kernel_rfl) (opensFs_cons rfl (by kernel_rfl) (opens_int Try.underlying2) (opensFs_cons rfl (by kernel_rfl) (opens_string Try.underlying9) (opensFs_one rfl (by kernel_rfl) (opens_slice z23 Try.underlying36 (by kernel_rfl) (opens_struct (d := (Kd.pair (Kd.int .i64) (Kd.pair (Kd.int .i64) (Kd.pair (Kd.int .i64) Kd.string)))) (fun x : S23 => (x.f0, x.f1, x.f2, x.f3)) (fun a => ⟨a.1, a.2.1, a.2.2.1, a.2.2.2⟩) (fun _ => rfl) Try.underlying23 (by kernel_rfl) (opensFs_cons rfl (by kernel_rfl) (opens_int Try.underlying2) (opensFs_cons rfl (by kernel_rfl) (opens_int Try.underlying2) (opensFs_cons rfl (by kernel_rfl) (opens_int Try.underlying2) (opensFs_one rfl (by kernel_rfl) (opens_string Try.underlying9))))))))))
set_option maxRecDepth 100000 in
theorem lifted (os : Os) (started : os.Started) (H : Type) (enc : TypeId × Value → H) :
    ReturnsInHanded {} Try.checked os 9 .any (Rows.fnExactPackageRightSpec.pre6 enc Try.prog Try.f9 Rows.fnExactPackageRightRow.domain false) (Rows.fnExactPackageRightSpec.post enc Try.prog Try.f9 false true false false) := by
  refine returnsInHanded_of_change_sized (C := Try.checked) own started (by kernel_rfl) Try.func9
    (ChangeSpec.witness6 (enc := enc) (C := Try.checked) false ⟨#[], #[.agg #[.int .i64 0, .string ByteArray.empty, .slice none 0 0]], []⟩ 8 (by kernel_rfl) (by kernel_rfl) (by kernel_rfl) (by kernel_rfl)) ?_
  intro W base args ds gs before hval0 hW hcnd hsz0 _
  have hval : ∀ (j : Nat) t v, Try.f9.params[j]? = some t → args[j]? = some v → Value.okWide Try.prog W .any base t v := hval0
  have hW' := hW
  obtain ⟨p, q, hA0, hV, rfl, hfz, hnd⟩ := hW
  have hA : DataW.TrodAll enc Try.prog W 0 (fun _ => true) true Try.f9.params.toList args.toList ds p := hA0
  rw [Try.params9] at hA hval
  obtain ⟨v0, vs0, d0, ds0, p0, q0, hargs, rfl, rfl, h0, r0⟩ := trodAll_cons hA
  obtain ⟨rfl, rfl, rfl⟩ := trodAll_nil r0
  obtain rfl : args = #[v0] := by cases args; simp_all
  obtain ⟨rfl, rfl⟩ := trodVars_none hV
  have k0 := h0
  have lt0 : ∀ x ∈ p0, x.block < W.heap.size := by obtain ⟨m, hm⟩ := k0; exact DataW.trod_lt m _ _ _ hm
  obtain ⟨cs0, rfl, _⟩ := okWide_struct Try.underlying49 (hval 0 49 v0 rfl rfl)
  obtain ⟨x0, hK0, ok0⟩ : ∃ x, kp0.K W x cs0.toList ∧ ((okInt .i64) x.1 ∧ okStr x.2.1 ∧ (okList (fun x : S23 => (okInt .i64) x.f0 ∧ (okInt .i64) x.f1 ∧ (okInt .i64) x.f2 ∧ okStr x.f3)) x.2.2) := by obtain ⟨fuel, hf⟩ := h0; exact op0 H enc W 0 _ _ fuel _ _ hf
  obtain ⟨A0_2, c0_2, e0, hc0_2, hr0_2⟩ : ∃ A0_2 c0_2, cs0.toList = [.int .i64 x0.1, .string x0.2.1, .slice A0_2 x0.2.2.length c0_2] ∧ x0.2.2.length ≤ c0_2 ∧ Kd.C k23 W A0_2 x0.2.2.length x0.2.2 := by
    have hK := hK0
    obtain ⟨u0, t0, e0, f0, g0⟩ := hK
    obtain ⟨u1, t1, e1, f1, g1⟩ := g0
    have f2 := g1
    have s0 := f0
    have s1 := f1
    obtain ⟨A2, c2, s2, hc2, hr2⟩ := f2
    refine ⟨A2, c2, ?_, hc2, hr2⟩
    have z : ∀ (a b : List Value), a = b → a = b := fun _ _ h => h
    first | (rw [e0, e1, show u0 = _ from s0, show u1 = _ from s1, show t1 = _ from s2]; rfl) | skip
  obtain rfl : cs0 = #[.int .i64 x0.1, .string x0.2.1, .slice A0_2 x0.2.2.length c0_2] := by cases cs0; simpa using e0
  clear hA0 hval0 hsz0
  obtain ⟨k, hk⟩ := Pure.FnExactPackageRight x0.1 x0.2.1 x0.2.2 ok0
  refine (laws_FnExactPackageRight.calls k x0.1 x0.2.1 _ _ x0.2.2 true W hr0_2 hc0_2 hk).mono ?_
  rintro e W' ⟨rfl, bel0⟩
  have bel : Below W.heap.size W W' := bel0
  exact ⟨_, rfl, _, _, _, [], _, [], hW', trodAll_mk1 (shut_bool Try.underlying4 _), (trodAll_cons_mk (Below.trod laidOut (by kernel_rfl) (of_decide_eq_true (by kernel_rfl)) k0 bel lt0) trodAll_mk0), rfl, bel.frame _, fun h => by cases h⟩
theorem over : Rows.fnExactPackageRightRow.holds Try.pinned (OpenSpec.ofChange Rows.fnExactPackageRightSpec) :=
  OpenClaim.holds_of_wide 9 Try.f9 rfl rfl rfl rfl rfl rfl rfl ⟨rfl, rfl, rfl, rfl, rfl⟩ rfl rfl rfl rfl rfl (by kernel_rfl) Try.func9 (by kernel_rfl)
    (of_decide_eq_true (by kernel_rfl)) (by unfold Func.isWrapper; first | (rw [if_pos (by decide +kernel)]; kernel_rfl) | (rw [if_neg (by decide +kernel)]; exact ⟨rfl, rfl⟩))
    (fun os started H enc _ => lifted os started H enc)
theorem proved : Rows.FnExactPackageRightSaid := over
end Go.Proofs.Ytholfbdbgginpaa.fnExactPackageRight
namespace Go.Proofs.Ytholfbdbgginpaa
theorem fnExactPackageRight_holds : Rows.FnExactPackageRightSaid := fnExactPackageRight.proved
end Go.Proofs.Ytholfbdbgginpaa
