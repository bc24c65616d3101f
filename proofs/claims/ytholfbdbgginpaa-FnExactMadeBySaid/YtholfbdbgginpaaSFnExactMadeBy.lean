/- The row of the law FnExactMadeBy, out of its pure statement and the printed function: for every input the law returns true, and each argument reads behind the call as it read before. -/
import Derived.Test.YtholfbdbgginpaaRows
import Derived.Test.YtholfbdbgginpaaKFnExactMadeByP
import Derived.WalkKit
import Derived.ProofKit
import Derived.OpenShut
import Derived.ShutString
import Derived.ChangeOld
import Derived.Below
import Derived.SizedLaws
namespace Go.Proofs.Ytholfbdbgginpaa.fnExactMadeBy
open Go.ChangeShapes Go.WideShapes Go.ChangeAt Go.RowKit Go.Proofs.Ytholfbdbgginpaa.Q Go.Proofs.Ytholfbdbgginpaa.Open Go.Proofs.YtholfbdbgginpaaW.PrintWords
open Go.ChangeMaps (open_string shut_string)
set_option linter.unusedVariables false
theorem own : ownKnob Try.prog.godebug = none := by kernel_rfl
theorem laidOut : laidOutB Try.prog = true := by kernel_rfl
theorem op0 : Opens (Kd.slice 9 Kd.string) (okList okStr) Try.prog 29 := (opens_slice ByteArray.empty Try.underlying29 (by kernel_rfl) (opens_string Try.underlying9))
def kp1 : Kd (Int × Int × Int × ByteArray) := Kd.iso (Kd.pair (Kd.int .i64) (Kd.pair (Kd.int .i64) (Kd.pair (Kd.int .i64) Kd.string))) id
theorem op1 : Opens kp1 (fun x => (okInt .i64) x.1 ∧ (okInt .i64) x.2.1 ∧ (okInt .i64) x.2.2.1 ∧ okStr x.2.2.2) Try.prog 23 := opens_struct (d := (Kd.pair (Kd.int .i64) (Kd.pair (Kd.int .i64) (Kd.pair (Kd.int .i64) Kd.string)))) id id (fun _ => rfl) Try.underlying23 (by kernel_rfl) (opensFs_cons rfl (by kernel_rfl) (opens_int Try.underlying2) (opensFs_cons rfl (by kernel_rfl) (opens_int Try.underlying2) (opensFs_cons rfl (by kernel_rfl) (opens_int Try.underlying2) (opensFs_one rfl (by kernel_rfl) (opens_string Try.underlying9)))))
set_option maxRecDepth 100000 in
theorem lifted (os : Os) (started : os.Started) (H : Type) (enc : TypeId × Value → H) :
    ReturnsInHanded {} Try.checked os 7 .any (Rows.fnExactMadeBySpec.pre6 enc Try.prog Try.f7 Rows.fnExactMadeByRow.domain false) (Rows.fnExactMadeBySpec.post enc Try.prog Try.f7 false true false false) := by
  refine returnsInHanded_of_change_sized (C := Try.checked) own started (by kernel_rfl) Try.func7
    (ChangeSpec.witness6 (enc := enc) (C := Try.checked) false ⟨#[], #[.slice none 0 0, .agg #[.int .i64 0, .int .i64 0, .int .i64 0, .string ByteArray.empty]], []⟩ 8 (by kernel_rfl) (by kernel_rfl) (by kernel_rfl) (by kernel_rfl)) ?_
  intro W base args ds gs before hval0 hW hcnd hsz0 _
  have hval : ∀ (j : Nat) t v, Try.f7.params[j]? = some t → args[j]? = some v → Value.okWide Try.prog W .any base t v := hval0
  have hW' := hW
  obtain ⟨p, q, hA0, hV, rfl, hfz, hnd⟩ := hW
  have hA : DataW.TrodAll enc Try.prog W 0 (fun _ => true) true Try.f7.params.toList args.toList ds p := hA0
  rw [Try.params7] at hA hval
  obtain ⟨v0, vs0, d0, ds0, p0, q0, hargs, rfl, rfl, h0, r0⟩ := trodAll_cons hA
  obtain ⟨v1, vs1, d1, ds1, p1, q1, rfl, rfl, rfl, h1, r1⟩ := trodAll_cons r0
  obtain ⟨rfl, rfl, rfl⟩ := trodAll_nil r1
  obtain rfl : args = #[v0, v1] := by cases args; simp_all
  obtain ⟨rfl, rfl⟩ := trodVars_none hV
  have k0 := h0
  have lt0 : ∀ x ∈ p0, x.block < W.heap.size := by obtain ⟨m, hm⟩ := k0; exact DataW.trod_lt m _ _ _ hm
  obtain ⟨a0, len0, cap0, rfl⟩ := okWide_slice Try.underlying29 (hval 0 29 v0 rfl rfl)
  obtain ⟨l0, ⟨A0, c0, e0, hc0, hr0⟩, ok0⟩ : ∃ l, (Kd.slice 9 Kd.string).K W l [.slice a0 len0 cap0] ∧ (okList okStr) l := by obtain ⟨fuel, hf⟩ := h0; exact op0 H enc W 0 _ _ fuel _ _ hf
  obtain ⟨rfl, rfl, rfl⟩ : a0 = A0 ∧ len0 = l0.length ∧ cap0 = c0 := by simpa using e0
  have k1 := h1
  have lt1 : ∀ x ∈ p1, x.block < W.heap.size := by obtain ⟨m, hm⟩ := k1; exact DataW.trod_lt m _ _ _ hm
  obtain ⟨cs1, rfl, _⟩ := okWide_struct Try.underlying23 (hval 1 23 v1 rfl rfl)
  obtain ⟨x1, hK1, ok1⟩ : ∃ x, kp1.K W x cs1.toList ∧ ((okInt .i64) x.1 ∧ (okInt .i64) x.2.1 ∧ (okInt .i64) x.2.2.1 ∧ okStr x.2.2.2) := by obtain ⟨fuel, hf⟩ := h1; exact op1 H enc W 0 _ _ fuel _ _ hf
  have e1 : cs1.toList = [.int .i64 x1.1, .int .i64 x1.2.1, .int .i64 x1.2.2.1, .string x1.2.2.2] := by
    have hK := hK1
    obtain ⟨u0, t0, e0, f0, g0⟩ := hK
    obtain ⟨u1, t1, e1, f1, g1⟩ := g0
    obtain ⟨u2, t2, e2, f2, g2⟩ := g1
    have f3 := g2
    have s0 := f0
    have s1 := f1
    have s2 := f2
    have s3 := f3
    have z : ∀ (a b : List Value), a = b → a = b := fun _ _ h => h
    first | (rw [e0, e1, e2, show u0 = _ from s0, show u1 = _ from s1, show u2 = _ from s2, show t2 = _ from s3]; rfl) | skip
  obtain rfl : cs1 = #[.int .i64 x1.1, .int .i64 x1.2.1, .int .i64 x1.2.2.1, .string x1.2.2.2] := by cases cs1; simpa using e1
  clear hA0 hval0 hsz0
  obtain ⟨k, hk⟩ := Pure.FnExactMadeBy l0 x1.1 x1.2.1 x1.2.2.1 x1.2.2.2 ok0 ok1
  refine (laws_FnExactMadeBy.calls k _ _ l0 x1.1 x1.2.1 x1.2.2.1 x1.2.2.2 true W hr0 hc0 hk).mono ?_
  rintro e W' ⟨rfl, bel0⟩
  have bel : Below W.heap.size W W' := bel0
  exact ⟨_, rfl, _, _, _, [], _, [], hW', trodAll_mk1 (shut_bool Try.underlying4 _), (trodAll_cons_mk (Below.trod laidOut (by kernel_rfl) (of_decide_eq_true (by kernel_rfl)) k0 bel lt0) (trodAll_cons_mk (Below.trod laidOut (by kernel_rfl) (of_decide_eq_true (by kernel_rfl)) k1 bel lt1) trodAll_mk0)), rfl, bel.frame _, fun h => by cases h⟩
theorem over : Rows.fnExactMadeByRow.holds Try.pinned (OpenSpec.ofChange Rows.fnExactMadeBySpec) :=
  OpenClaim.holds_of_wide 7 Try.f7 rfl rfl rfl rfl rfl rfl rfl ⟨rfl, rfl, rfl, rfl, rfl⟩ rfl rfl rfl rfl rfl (by kernel_rfl) Try.func7 (by kernel_rfl)
    (of_decide_eq_true (by kernel_rfl)) (by unfold Func.isWrapper; first | (rw [if_pos (by decide +kernel)]; kernel_rfl) | (rw [if_neg (by decide +kernel)]; exact ⟨rfl, rfl⟩))
    (fun os started H enc _ => lifted os started H enc)
theorem proved : Rows.FnExactMadeBySaid := over
end Go.Proofs.Ytholfbdbgginpaa.fnExactMadeBy
namespace Go.Proofs.Ytholfbdbgginpaa
theorem fnExactMadeBy_holds : Rows.FnExactMadeBySaid := fnExactMadeBy.proved
end Go.Proofs.Ytholfbdbgginpaa
