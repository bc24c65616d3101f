/-
  No cell of these rows narrows 'for every input' (looked for: loops, veiled, ifaces, maps, wideKeys, modest, calm, conditions, laid).
  DERIVED. THE GIVEN ROWS OF THIS SEAT. 10 by the template 'for every input the law returns true; each argument reads behind the call as it read before'; 0 by the template 'total and deterministic' (their statements: YtholfbdbgginpaaTotals.lean).
  GIVEN WITH THE SEED: the statements are not yours to turn. If you find one false, say at which input.
  Laid BY PROGRAM, IN A SANDBOX (cutbox-rows.mjs): the forced cells as the released guide's own fill.sh prints them over the translation 7c85437a7387c6ed… (all of the seat's roots in one cut). By AI agents, Wed Nov 11 2026. No macro, syntax, notation, axiom, sorry.
-/
import Derived.Test.YtholfbdbgginpaaChecked
import GoSem.Claim
import GoSem.ClaimJoined
import GoSem.ClaimMapViews
import Derived.JoinedTies
import Derived.KernelRfl
namespace Go.Proofs.Ytholfbdbgginpaa
/- THE CELL 'sum', in the pinned program and in every row, IS THE sha256 OF THE DUMP (.gsa) THAT YtholfbdbgginpaaProg.lean LOADS. Nothing in Lean hashes anything: it is a label: what it is worth is what the hold of that sum in a sandbox is worth. -/
noncomputable def Try.pinned : Pinned := { name := "ytholfbdbgginpaa", sum := "7c85437a7387c6edaf6bd3a620f6db8a05c6706a44ab51651d1e3d80e771ef92", checked := Try.checked }
namespace Rows
def none {H : Type} : Left H := { results := [], args := [] }

/-- 'laws.FnExactStepRight': WHATEVER THE INPUT: true; the input reads as it did. -/
def fnExactStepRightSpec : ChangeSpec := { name := "fnExactStepRight", fn := fun _ => fun
  | [d1, d2] => { results := [.lit (.bool true)], args := [d1, d2] }
  | _ => none }
def fnExactStepRightRow : OpenClaim := { program := "ytholfbdbgginpaa", sum := "7c85437a7387c6edaf6bd3a620f6db8a05c6706a44ab51651d1e3d80e771ef92", func := "loop.example/g00668/laws.FnExactStepRight", spec := "fnExactStepRight", apart := false }
def FnExactStepRightSaid : Prop := fnExactStepRightRow.holds Try.pinned (OpenSpec.ofChange fnExactStepRightSpec)

/-- ITS FALSE NEIGHBOUR: 'it returns false'. Refute it at one input. -/
def fnExactStepRightWrong : ChangeSpec := { name := "fnExactStepRight", fn := fun _ => fun
  | [d1, d2] => { results := [.lit (.bool false)], args := [d1, d2] }
  | _ => none }
def FnExactStepRightWrongFalsely : Prop := fnExactStepRightRow.holds Try.pinned (OpenSpec.ofChange fnExactStepRightWrong)

/-- 'laws.FnExactImageRight': WHATEVER THE INPUT: true; the input reads as it did. -/
def fnExactImageRightSpec : ChangeSpec := { name := "fnExactImageRight", fn := fun _ => fun
  | [d] => { results := [.lit (.bool true)], args := [d] }
  | _ => none }
def fnExactImageRightRow : OpenClaim := { program := "ytholfbdbgginpaa", sum := "7c85437a7387c6edaf6bd3a620f6db8a05c6706a44ab51651d1e3d80e771ef92", func := "loop.example/g00668/laws.FnExactImageRight", spec := "fnExactImageRight", unfollowed := true, recurses := true, apart := false }
def FnExactImageRightSaid : Prop := fnExactImageRightRow.holds Try.pinned (OpenSpec.ofChange fnExactImageRightSpec)

/-- ITS FALSE NEIGHBOUR: 'it returns false'. Refute it at one input. -/
def fnExactImageRightWrong : ChangeSpec := { name := "fnExactImageRight", fn := fun _ => fun
  | [d] => { results := [.lit (.bool false)], args := [d] }
  | _ => none }
def FnExactImageRightWrongFalsely : Prop := fnExactImageRightRow.holds Try.pinned (OpenSpec.ofChange fnExactImageRightWrong)

/-- 'laws.FnExactStepBytes': WHATEVER THE INPUT: true; the input reads as it did. -/
def fnExactStepBytesSpec : ChangeSpec := { name := "fnExactStepBytes", fn := fun _ => fun
  | [d] => { results := [.lit (.bool true)], args := [d] }
  | _ => none }
def fnExactStepBytesRow : OpenClaim := { program := "ytholfbdbgginpaa", sum := "7c85437a7387c6edaf6bd3a620f6db8a05c6706a44ab51651d1e3d80e771ef92", func := "loop.example/g00668/laws.FnExactStepBytes", spec := "fnExactStepBytes", apart := false }
def FnExactStepBytesSaid : Prop := fnExactStepBytesRow.holds Try.pinned (OpenSpec.ofChange fnExactStepBytesSpec)

/-- ITS FALSE NEIGHBOUR: 'it returns false'. Refute it at one input. -/
def fnExactStepBytesWrong : ChangeSpec := { name := "fnExactStepBytes", fn := fun _ => fun
  | [d] => { results := [.lit (.bool false)], args := [d] }
  | _ => none }
def FnExactStepBytesWrongFalsely : Prop := fnExactStepBytesRow.holds Try.pinned (OpenSpec.ofChange fnExactStepBytesWrong)

/-- 'laws.FnExactWrites': WHATEVER THE INPUT: true; the input reads as it did. -/
def fnExactWritesSpec : ChangeSpec := { name := "fnExactWrites", fn := fun _ => fun
  | [d] => { results := [.lit (.bool true)], args := [d] }
  | _ => none }
def fnExactWritesRow : OpenClaim := { program := "ytholfbdbgginpaa", sum := "7c85437a7387c6edaf6bd3a620f6db8a05c6706a44ab51651d1e3d80e771ef92", func := "loop.example/g00668/laws.FnExactWrites", spec := "fnExactWrites", unfollowed := true, recurses := true, apart := false }
def FnExactWritesSaid : Prop := fnExactWritesRow.holds Try.pinned (OpenSpec.ofChange fnExactWritesSpec)

/-- ITS FALSE NEIGHBOUR: 'it returns false'. Refute it at one input. -/
def fnExactWritesWrong : ChangeSpec := { name := "fnExactWrites", fn := fun _ => fun
  | [d] => { results := [.lit (.bool false)], args := [d] }
  | _ => none }
def FnExactWritesWrongFalsely : Prop := fnExactWritesRow.holds Try.pinned (OpenSpec.ofChange fnExactWritesWrong)

/-- 'laws.FnExactMadeBy': WHATEVER THE INPUT: true; the input reads as it did. -/
def fnExactMadeBySpec : ChangeSpec := { name := "fnExactMadeBy", fn := fun _ => fun
  | [d1, d2] => { results := [.lit (.bool true)], args := [d1, d2] }
  | _ => none }
def fnExactMadeByRow : OpenClaim := { program := "ytholfbdbgginpaa", sum := "7c85437a7387c6edaf6bd3a620f6db8a05c6706a44ab51651d1e3d80e771ef92", func := "loop.example/g00668/laws.FnExactMadeBy", spec := "fnExactMadeBy", unfollowed := true, recurses := true, apart := false }
def FnExactMadeBySaid : Prop := fnExactMadeByRow.holds Try.pinned (OpenSpec.ofChange fnExactMadeBySpec)

/-- ITS FALSE NEIGHBOUR: 'it returns false'. Refute it at one input. -/
def fnExactMadeByWrong : ChangeSpec := { name := "fnExactMadeBy", fn := fun _ => fun
  | [d1, d2] => { results := [.lit (.bool false)], args := [d1, d2] }
  | _ => none }
def FnExactMadeByWrongFalsely : Prop := fnExactMadeByRow.holds Try.pinned (OpenSpec.ofChange fnExactMadeByWrong)

/-- 'laws.FnExactStepsCode': WHATEVER THE INPUT: true; the input reads as it did. -/
def fnExactStepsCodeSpec : ChangeSpec := { name := "fnExactStepsCode", fn := fun _ => fun
  | [d1, d2] => { results := [.lit (.bool true)], args := [d1, d2] }
  | _ => none }
def fnExactStepsCodeRow : OpenClaim := { program := "ytholfbdbgginpaa", sum := "7c85437a7387c6edaf6bd3a620f6db8a05c6706a44ab51651d1e3d80e771ef92", func := "loop.example/g00668/laws.FnExactStepsCode", spec := "fnExactStepsCode", unfollowed := true, recurses := true, apart := false }
def FnExactStepsCodeSaid : Prop := fnExactStepsCodeRow.holds Try.pinned (OpenSpec.ofChange fnExactStepsCodeSpec)

/-- ITS FALSE NEIGHBOUR: 'it returns false'. Refute it at one input. -/
def fnExactStepsCodeWrong : ChangeSpec := { name := "fnExactStepsCode", fn := fun _ => fun
  | [d1, d2] => { results := [.lit (.bool false)], args := [d1, d2] }
  | _ => none }
def FnExactStepsCodeWrongFalsely : Prop := fnExactStepsCodeRow.holds Try.pinned (OpenSpec.ofChange fnExactStepsCodeWrong)

/-- 'laws.FnExactPackageRight': WHATEVER THE INPUT: true; the input reads as it did. -/
def fnExactPackageRightSpec : ChangeSpec := { name := "fnExactPackageRight", fn := fun _ => fun
  | [d] => { results := [.lit (.bool true)], args := [d] }
  | _ => none }
def fnExactPackageRightRow : OpenClaim := { program := "ytholfbdbgginpaa", sum := "7c85437a7387c6edaf6bd3a620f6db8a05c6706a44ab51651d1e3d80e771ef92", func := "loop.example/g00668/laws.FnExactPackageRight", spec := "fnExactPackageRight", unfollowed := true, recurses := true, apart := false }
def FnExactPackageRightSaid : Prop := fnExactPackageRightRow.holds Try.pinned (OpenSpec.ofChange fnExactPackageRightSpec)

/-- ITS FALSE NEIGHBOUR: 'it returns false'. Refute it at one input. -/
def fnExactPackageRightWrong : ChangeSpec := { name := "fnExactPackageRight", fn := fun _ => fun
  | [d] => { results := [.lit (.bool false)], args := [d] }
  | _ => none }
def FnExactPackageRightWrongFalsely : Prop := fnExactPackageRightRow.holds Try.pinned (OpenSpec.ofChange fnExactPackageRightWrong)

/-- 'laws.FnExactStepsFor': WHATEVER THE INPUT: true; the input reads as it did. -/
def fnExactStepsForSpec : ChangeSpec := { name := "fnExactStepsFor", fn := fun _ => fun
  | [d1, d2] => { results := [.lit (.bool true)], args := [d1, d2] }
  | _ => none }
def fnExactStepsForRow : OpenClaim := { program := "ytholfbdbgginpaa", sum := "7c85437a7387c6edaf6bd3a620f6db8a05c6706a44ab51651d1e3d80e771ef92", func := "loop.example/g00668/laws.FnExactStepsFor", spec := "fnExactStepsFor", inPlace := ["internal/bytealg.CountString", "internal/bytealg.IndexByteString", "internal/bytealg.IndexString"], unfollowed := true, recurses := true, named := ["internal/bytealg.MaxLen"], apart := false }
def FnExactStepsForSaid : Prop := fnExactStepsForRow.holds Try.pinned (OpenSpec.ofChange fnExactStepsForSpec)

/-- ITS FALSE NEIGHBOUR: 'it returns false'. Refute it at one input. -/
def fnExactStepsForWrong : ChangeSpec := { name := "fnExactStepsFor", fn := fun _ => fun
  | [d1, d2] => { results := [.lit (.bool false)], args := [d1, d2] }
  | _ => none }
def FnExactStepsForWrongFalsely : Prop := fnExactStepsForRow.holds Try.pinned (OpenSpec.ofChange fnExactStepsForWrong)

/-- 'laws.FnExactImageApply': WHATEVER THE INPUT: true; the input reads as it did. -/
def fnExactImageApplySpec : ChangeSpec := { name := "fnExactImageApply", fn := fun _ => fun
  | [d1, d2] => { results := [.lit (.bool true)], args := [d1, d2] }
  | _ => none }
def fnExactImageApplyRow : OpenClaim := { program := "ytholfbdbgginpaa", sum := "7c85437a7387c6edaf6bd3a620f6db8a05c6706a44ab51651d1e3d80e771ef92", func := "loop.example/g00668/laws.FnExactImageApply", spec := "fnExactImageApply", unfollowed := true, recurses := true, apart := false }
def FnExactImageApplySaid : Prop := fnExactImageApplyRow.holds Try.pinned (OpenSpec.ofChange fnExactImageApplySpec)

/-- ITS FALSE NEIGHBOUR: 'it returns false'. Refute it at one input. -/
def fnExactImageApplyWrong : ChangeSpec := { name := "fnExactImageApply", fn := fun _ => fun
  | [d1, d2] => { results := [.lit (.bool false)], args := [d1, d2] }
  | _ => none }
def FnExactImageApplyWrongFalsely : Prop := fnExactImageApplyRow.holds Try.pinned (OpenSpec.ofChange fnExactImageApplyWrong)

/-- 'laws.FnDiff': WHATEVER THE INPUT: true; the input reads as it did. -/
def fnDiffSpec : ChangeSpec := { name := "fnDiff", fn := fun _ => fun
  | [d] => { results := [.lit (.bool true)], args := [d] }
  | _ => none }
def fnDiffRow : OpenClaim := { program := "ytholfbdbgginpaa", sum := "7c85437a7387c6edaf6bd3a620f6db8a05c6706a44ab51651d1e3d80e771ef92", func := "loop.example/g00668/laws.FnDiff", spec := "fnDiff", inPlace := ["internal/bytealg.CountString", "internal/bytealg.IndexByteString", "internal/bytealg.IndexString"], unfollowed := true, recurses := true, named := ["internal/bytealg.MaxLen"], apart := false }
def FnDiffSaid : Prop := fnDiffRow.holds Try.pinned (OpenSpec.ofChange fnDiffSpec)

/-- ITS FALSE NEIGHBOUR: 'it returns false'. Refute it at one input. -/
def fnDiffWrong : ChangeSpec := { name := "fnDiff", fn := fun _ => fun
  | [d] => { results := [.lit (.bool false)], args := [d] }
  | _ => none }
def FnDiffWrongFalsely : Prop := fnDiffRow.holds Try.pinned (OpenSpec.ofChange fnDiffWrong)

/- THE SECOND FORM. 'bulk': how many values and letters a reading holds, each counted each time it is reached (what is shared counts as often as it is met; a slice's spare places count too). A statement '..UptoSaid' is the law's where the arguments, and the package variables that the reading takes, are together of bulk at most 1048576: NARROWER than '..Said'. Prove '..Said' where nothing that the law and all that it calls make is longer than what came in: it says more and counts as full. Else prove '..UptoSaid'. A law counts once. -/
mutual
def uptoBulk {H : Type} : DataW H → Nat
  | .lit (.string bytes) => bytes.length + 1
  | .lit _ => 1
  | .nil => 1
  | .ptr d => uptoBulk d + 1
  | .slice elems spare => uptoBulkAll elems + uptoBulkAll spare + 1
  | .agg parts => uptoBulkAll parts + 1
  | .iface _ d => uptoBulk d + 1
  | .map entries => uptoBulkEntries entries + 1
  | .held _ => 1
def uptoBulkAll {H : Type} : List (DataW H) → Nat
  | [] => 0
  | d :: r => uptoBulk d + uptoBulkAll r
def uptoBulkEntries {H : Type} : List (Lit × DataW H) → Nat
  | [] => 0
  | x :: r => uptoBulkEntry x + uptoBulkEntries r
def uptoBulkEntry {H : Type} : Lit × DataW H → Nat
  | (.string bytes, d) => bytes.length + uptoBulk d + 1
  | (_, d) => uptoBulk d + 1
 end
def uptoSmall : (H : Type) → List (DataW H) → Bool := fun _ ds => decide (uptoBulkAll ds ≤ 1048576)
def OpenSpec.upto (s : _root_.Go.ChangeSpec) : _root_.Go.OpenSpec := { _root_.Go.OpenSpec.ofChange s with cond := some uptoSmall }

/-- 'laws.FnExactStepRight', WHERE WHAT IT READS IS OF BULK AT MOST 1048576: true; the input reads as it did. -/
def fnExactStepRightUptoRow : OpenClaim := { program := "ytholfbdbgginpaa", sum := "7c85437a7387c6edaf6bd3a620f6db8a05c6706a44ab51651d1e3d80e771ef92", func := "loop.example/g00668/laws.FnExactStepRight", spec := "fnExactStepRight", apart := false, narrowed := true }
def FnExactStepRightUptoSaid : Prop := fnExactStepRightUptoRow.holds Try.pinned (OpenSpec.upto fnExactStepRightSpec)

/-- 'laws.FnExactImageRight', WHERE WHAT IT READS IS OF BULK AT MOST 1048576: true; the input reads as it did. -/
def fnExactImageRightUptoRow : OpenClaim := { program := "ytholfbdbgginpaa", sum := "7c85437a7387c6edaf6bd3a620f6db8a05c6706a44ab51651d1e3d80e771ef92", func := "loop.example/g00668/laws.FnExactImageRight", spec := "fnExactImageRight", unfollowed := true, recurses := true, apart := false, narrowed := true }
def FnExactImageRightUptoSaid : Prop := fnExactImageRightUptoRow.holds Try.pinned (OpenSpec.upto fnExactImageRightSpec)

/-- 'laws.FnExactStepBytes', WHERE WHAT IT READS IS OF BULK AT MOST 1048576: true; the input reads as it did. -/
def fnExactStepBytesUptoRow : OpenClaim := { program := "ytholfbdbgginpaa", sum := "7c85437a7387c6edaf6bd3a620f6db8a05c6706a44ab51651d1e3d80e771ef92", func := "loop.example/g00668/laws.FnExactStepBytes", spec := "fnExactStepBytes", apart := false, narrowed := true }
def FnExactStepBytesUptoSaid : Prop := fnExactStepBytesUptoRow.holds Try.pinned (OpenSpec.upto fnExactStepBytesSpec)

/-- 'laws.FnExactWrites', WHERE WHAT IT READS IS OF BULK AT MOST 1048576: true; the input reads as it did. -/
def fnExactWritesUptoRow : OpenClaim := { program := "ytholfbdbgginpaa", sum := "7c85437a7387c6edaf6bd3a620f6db8a05c6706a44ab51651d1e3d80e771ef92", func := "loop.example/g00668/laws.FnExactWrites", spec := "fnExactWrites", unfollowed := true, recurses := true, apart := false, narrowed := true }
def FnExactWritesUptoSaid : Prop := fnExactWritesUptoRow.holds Try.pinned (OpenSpec.upto fnExactWritesSpec)

/-- 'laws.FnExactMadeBy', WHERE WHAT IT READS IS OF BULK AT MOST 1048576: true; the input reads as it did. -/
def fnExactMadeByUptoRow : OpenClaim := { program := "ytholfbdbgginpaa", sum := "7c85437a7387c6edaf6bd3a620f6db8a05c6706a44ab51651d1e3d80e771ef92", func := "loop.example/g00668/laws.FnExactMadeBy", spec := "fnExactMadeBy", unfollowed := true, recurses := true, apart := false, narrowed := true }
def FnExactMadeByUptoSaid : Prop := fnExactMadeByUptoRow.holds Try.pinned (OpenSpec.upto fnExactMadeBySpec)

/-- 'laws.FnExactStepsCode', WHERE WHAT IT READS IS OF BULK AT MOST 1048576: true; the input reads as it did. -/
def fnExactStepsCodeUptoRow : OpenClaim := { program := "ytholfbdbgginpaa", sum := "7c85437a7387c6edaf6bd3a620f6db8a05c6706a44ab51651d1e3d80e771ef92", func := "loop.example/g00668/laws.FnExactStepsCode", spec := "fnExactStepsCode", unfollowed := true, recurses := true, apart := false, narrowed := true }
def FnExactStepsCodeUptoSaid : Prop := fnExactStepsCodeUptoRow.holds Try.pinned (OpenSpec.upto fnExactStepsCodeSpec)

/-- 'laws.FnExactPackageRight', WHERE WHAT IT READS IS OF BULK AT MOST 1048576: true; the input reads as it did. -/
def fnExactPackageRightUptoRow : OpenClaim := { program := "ytholfbdbgginpaa", sum := "7c85437a7387c6edaf6bd3a620f6db8a05c6706a44ab51651d1e3d80e771ef92", func := "loop.example/g00668/laws.FnExactPackageRight", spec := "fnExactPackageRight", unfollowed := true, recurses := true, apart := false, narrowed := true }
def FnExactPackageRightUptoSaid : Prop := fnExactPackageRightUptoRow.holds Try.pinned (OpenSpec.upto fnExactPackageRightSpec)

/-- 'laws.FnExactStepsFor', WHERE WHAT IT READS IS OF BULK AT MOST 1048576: true; the input reads as it did. -/
def fnExactStepsForUptoRow : OpenClaim := { program := "ytholfbdbgginpaa", sum := "7c85437a7387c6edaf6bd3a620f6db8a05c6706a44ab51651d1e3d80e771ef92", func := "loop.example/g00668/laws.FnExactStepsFor", spec := "fnExactStepsFor", inPlace := ["internal/bytealg.CountString", "internal/bytealg.IndexByteString", "internal/bytealg.IndexString"], unfollowed := true, recurses := true, named := ["internal/bytealg.MaxLen"], apart := false, narrowed := true }
def FnExactStepsForUptoSaid : Prop := fnExactStepsForUptoRow.holds Try.pinned (OpenSpec.upto fnExactStepsForSpec)

/-- 'laws.FnExactImageApply', WHERE WHAT IT READS IS OF BULK AT MOST 1048576: true; the input reads as it did. -/
def fnExactImageApplyUptoRow : OpenClaim := { program := "ytholfbdbgginpaa", sum := "7c85437a7387c6edaf6bd3a620f6db8a05c6706a44ab51651d1e3d80e771ef92", func := "loop.example/g00668/laws.FnExactImageApply", spec := "fnExactImageApply", unfollowed := true, recurses := true, apart := false, narrowed := true }
def FnExactImageApplyUptoSaid : Prop := fnExactImageApplyUptoRow.holds Try.pinned (OpenSpec.upto fnExactImageApplySpec)

/-- 'laws.FnDiff', WHERE WHAT IT READS IS OF BULK AT MOST 1048576: true; the input reads as it did. -/
def fnDiffUptoRow : OpenClaim := { program := "ytholfbdbgginpaa", sum := "7c85437a7387c6edaf6bd3a620f6db8a05c6706a44ab51651d1e3d80e771ef92", func := "loop.example/g00668/laws.FnDiff", spec := "fnDiff", inPlace := ["internal/bytealg.CountString", "internal/bytealg.IndexByteString", "internal/bytealg.IndexString"], unfollowed := true, recurses := true, named := ["internal/bytealg.MaxLen"], apart := false, narrowed := true }
def FnDiffUptoSaid : Prop := fnDiffUptoRow.holds Try.pinned (OpenSpec.upto fnDiffSpec)

end Rows
end Go.Proofs.Ytholfbdbgginpaa
