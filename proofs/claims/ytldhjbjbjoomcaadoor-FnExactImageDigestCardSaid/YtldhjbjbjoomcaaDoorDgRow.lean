import Derived.Test.YtldhjbjbjoomcaaDoorRows
import Derived.Test.YtldhjbjbjoomcaaDoorDgLaws
import Derived.WalkKit
import Derived.ProofKit
import Derived.OpenShut
import Derived.ShutString
import Derived.ChangeOld
import Derived.Below
import Derived.SizedLaws
import Derived.LaidMore
import Derived.Lib.LaidTab
import Derived.Stop.LaidErr
namespace Go.Proofs.YtldhjbjbjoomcaaDoor.DgRow
open Go.ChangeShapes Go.WideShapes Go.ChangeAt Go.RowKit Go.Proofs.YtldhjbjbjoomcaaDoor.Q Go.Proofs.YtldhjbjbjoomcaaDoorW.PrintWords
open Go.ChangeMaps (open_string shut_string)
set_option linter.unusedVariables false
set_option maxRecDepth 100000
theorem own : ownKnob Tryd.prog.godebug = none := by kernel_rfl
theorem laidOut : laidOutB Tryd.prog = true := by kernel_rfl
theorem g0 : Tryd.prog.globalNamed "loop.example/g00668/impl.digestStart" = some 0 := by kernel_rfl
theorem g1 : Tryd.prog.globalNamed "loop.example/g00668/impl.digestRounds" = some 1 := by kernel_rfl
theorem t0 : (Tryd.prog.globals[0]?).map (·.type) = some 72 := by kernel_rfl
theorem t1 : (Tryd.prog.globals[1]?).map (·.type) = some 102 := by kernel_rfl
theorem u102 : Tryd.prog.underlying 102 = some (.array 64 71) := by kernel_rfl
theorem c71 : Tryd.prog.cellsOf 71 = 1 := by kernel_rfl
theorem c72 : Tryd.prog.cellsOf 72 = 8 := by kernel_rfl
theorem c102 : Tryd.prog.cellsOf 102 = 64 := by kernel_rfl
abbrev laidL : List (String × DataW Unit) := [("loop.example/g00668/impl.digestStart", Rows.laid_loop_example_g00668_impl_digestStart), ("loop.example/g00668/impl.digestRounds", Rows.laid_loop_example_g00668_impl_digestRounds)]
/-- What the condition gives the walks: the two tables' cells. -/
theorem of_laid {W : World} (h : laidMetH Tryd.prog laidL W) : dg.G W := by
  rw [MakeChecks.laidMetH_plain _ _ _ (by kernel_rfl)] at h
  have h0 := Lib.tabIs_of_head (k := .u32) (zs := dg.start) g0 t0 Tryd.underlying72 Tryd.underlying71 c71 c72 h
  have h1 := Lib.tabIs_of_head (k := .u32) (zs := dg.keys) g1 t1 u102 Tryd.underlying71 c71 c102 h.tail
  have k1 : ∀ i : Nat, i < 64 → W.cell? ⟨1, i, none⟩ = some (.int .u32 (rd dg.keys (i : Int))) := fun i hi => h1.cell g1 i hi
  exact ⟨fun i hi => h0.cell g0 i hi, k1, World.block_lt_of_cell? _ _ (k1 0 (by decide))⟩
def setTab (zs : List Int) : Obj → Obj
  | .cells _ t frozen => .cells (zs.map fun z => Value.int .u32 z).toArray t frozen
  | o => o
/-- The settled world, the two tables as their initialisers lay them: the witness. -/
noncomputable def laidWorld (os : Os) : World :=
  { World.holding Tryd.prog os ⟨#[], #[], []⟩ with heap := ((World.holding Tryd.prog os ⟨#[], #[], []⟩).heap.modify 0 (setTab dg.start)).modify 1 (setTab dg.keys) }
theorem laid_met (os : Os) (args : Array Value) : laidMetH Tryd.prog laidL ((laidWorld os).forCall (fun _ _ => 0) ⟨#[], args, []⟩).memory := by
  rw [MakeChecks.laidMetH_plain _ _ _ (by kernel_rfl)]
  exact laidMet_of_run' 8 (by kernel_rfl) (by kernel_rfl)
/-- The two variables read behind a call as before it. -/
theorem vars_after {H : Type} {enc : TypeId × Value → H} {W W' : World} {n0 n1 : String} {gs : List (DataW H)} {q : List MemPlace}
    (hn0 : Tryd.prog.globalNamed n0 = some 0) (hn1 : Tryd.prog.globalNamed n1 = some 1) (hb : Below W.heap.size W W')
    (hV : DataW.TrodVars enc Tryd.prog W (fun _ => true) [n0, n1] gs q) : ∃ d0 d1 q', gs = [d0, d1] ∧ DataW.TrodVars enc Tryd.prog W' (fun b => decide (b < W.heap.size)) [n0, n1] gs q' := by
  obtain ⟨g0', t0', cs0, f0, d0, p0, g1', t1', cs1, f1, d1, p1, rfl, h1, h2, h3, h4, k1, k2, k3, k4, e⟩ := trodVars_two hV
  obtain rfl := Option.some.inj (hn0.symm.trans h1)
  obtain rfl := Option.some.inj (hn1.symm.trans k1)
  obtain rfl := Option.some.inj (t0.symm.trans h2)
  obtain rfl := Option.some.inj (t1.symm.trans k2)
  have keep : ∀ (n : String) (g : Nat) (cs : Array Value), Tryd.prog.globalNamed n = some g → W.var? Tryd.prog n = some cs → W'.var? Tryd.prog n = some cs := by
    intro n g cs hg hv
    unfold World.var? at hv ⊢
    rw [hg] at hv ⊢
    simp only [Option.bind_some] at hv ⊢
    have hlt : g < W.heap.size := by
      rcases Nat.lt_or_ge g W.heap.size with h | h
      · exact h
      · rw [Array.getElem?_eq_none h] at hv; cases hv
    rw [hb.block g hlt]; exact hv
  have r0 : DataW.Trod enc Tryd.prog W 0 (fun _ => true) true 72 (.agg cs0) d0 p0 := ⟨f0, h4⟩
  have r1 : DataW.Trod enc Tryd.prog W 0 (fun _ => true) true 102 (.agg cs1) d1 p1 := ⟨f1, k4⟩
  have l0 : ∀ x ∈ p0, x.block < W.heap.size := DataW.trod_lt f0 _ _ _ h4
  have l1 : ∀ x ∈ p1, x.block < W.heap.size := DataW.trod_lt f1 _ _ _ k4
  obtain ⟨m0, s0⟩ := Below.trod laidOut (by kernel_rfl) (of_decide_eq_true (by kernel_rfl)) r0 hb l0
  obtain ⟨m1, s1⟩ := Below.trod laidOut (by kernel_rfl) (of_decide_eq_true (by kernel_rfl)) r1 hb l1
  exact ⟨d0, d1, _, rfl, 0, 72, cs0, m0, p0, _, hn0, t0, keep n0 0 cs0 hn0 h3, s0, ⟨1, 102, cs1, m1, p1, _, hn1, t1, keep n1 1 cs1 hn1 k3, s1, rfl, rfl⟩, rfl⟩
theorem liftedE (os : Os) (started : os.Started) (H : Type) (enc : TypeId × Value → H) :
    ReturnsInHanded {} Tryd.checked os 3 .any (fun w args => (Rows.fnExactDigestSpec.pre enc Tryd.prog Tryd.f3 [] false w args ∧ laidMetH Tryd.prog laidL w) ∧ sizedMet enc Tryd.prog Tryd.f3 (OpenSpec.ofChange Rows.fnExactDigestSpec) false w args)
      (Rows.fnExactDigestSpec.post enc Tryd.prog Tryd.f3 false true false false) := by
  refine returnsInHanded_of_change_and (C := Tryd.checked) (X := fun w _ => laidMetH Tryd.prog laidL w) (fun _ _ _ hh h => h.of_heap hh) own started (by kernel_rfl) Tryd.func3
    (ChangeSpec.witness_at (enc := enc) (C := Tryd.checked) (os := os) (X := fun w _ => laidMetH Tryd.prog laidL w) false (laidWorld os) #[.string ByteArray.empty] 8 rfl (by kernel_rfl) (by kernel_rfl) (by kernel_rfl) (by kernel_rfl) (by kernel_rfl) (laid_met os _)) ?_
  intro W base args ds gs before hval0 hW _ _ hL _
  have hval : ∀ (j : Nat) t v, Tryd.f3.params[j]? = some t → args[j]? = some v → Value.okWide Tryd.prog W .any base t v := hval0
  have hW' := hW
  obtain ⟨p, q, hA0, hV0, rfl, hfz, hnd⟩ := hW
  have hA : DataW.TrodAll enc Tryd.prog W 0 (fun _ => true) true Tryd.f3.params.toList args.toList ds p := hA0
  have hV : DataW.TrodVars enc Tryd.prog W (fun _ => true) ["loop.example/g00668/impl.digestStart", "loop.example/g00668/impl.digestRounds"] gs q := hV0
  rw [Tryd.params3] at hA hval
  obtain ⟨v0, d0, rfl, rfl, h0⟩ := trodAll_one hA
  obtain ⟨a0, rfl, rfl, rfl, y0⟩ := open_string Tryd.underlying9 (hval 0 9 v0 rfl rfl) h0
  refine (laws_FnExactDigest.calls a0 W (of_laid hL)).mono fun e W' ⟨he, bel⟩ => ?_
  subst he
  obtain ⟨e0, e1, q', rfl, hq⟩ := vars_after g0 g1 bel hV
  exact ⟨_, rfl, _, _, _, [], _, q', hW', trodAll_mk1 (shut_bool Tryd.underlying4 _), (trodAll_cons_mk (shut_string Tryd.underlying9 y0) trodAll_mk0), hq, bel.frame _, fun h => by cases h⟩
theorem overE : Rows.FnExactDigestSaid :=
  OpenClaim.holds_of_wide 3 Tryd.f3 rfl rfl rfl rfl rfl rfl rfl ⟨rfl, rfl, rfl, rfl, rfl⟩ rfl rfl rfl rfl rfl (by kernel_rfl) Tryd.func3 (by kernel_rfl)
    (of_decide_eq_true (by kernel_rfl)) (by unfold Func.isWrapper; first | (rw [if_pos (by decide +kernel)]; kernel_rfl) | (rw [if_neg (by decide +kernel)]; exact ⟨rfl, rfl⟩))
    (fun os started H enc _ => liftedE os started H enc)
end Go.Proofs.YtldhjbjbjoomcaaDoor.DgRow
