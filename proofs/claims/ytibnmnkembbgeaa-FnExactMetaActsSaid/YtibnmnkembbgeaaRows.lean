/-
  No cell of these rows narrows 'for every input' (looked for: loops, veiled, ifaces, maps, wideKeys, modest, calm, conditions, laid).
  DERIVED. THE GIVEN ROWS OF THIS SEAT. 11 by the template 'for every input the law returns true; each argument reads behind the call as it read before'; 0 by the template 'total and deterministic' (their statements: YtibnmnkembbgeaaTotals.lean).
  GIVEN WITH THE SEED: the statements are not yours to turn. If you find one false, say at which input.
  Laid BY PROGRAM, IN A SANDBOX (cutbox-rows.mjs): the forced cells as the released guide's own fill.sh prints them over the translation 6e85903224da2d47… (all of the seat's roots in one cut). By AI agents, Wed Nov 11 2026. No macro, syntax, notation, axiom, sorry.
-/
import Derived.Test.YtibnmnkembbgeaaChecked
import GoSem.Claim
import GoSem.ClaimJoined
import GoSem.ClaimMapViews
import Derived.JoinedTies
import Derived.KernelRfl
namespace Go.Proofs.Ytibnmnkembbgeaa
/- THE CELL 'sum', in the pinned program and in every row, IS THE sha256 OF THE DUMP (.gsa) THAT YtibnmnkembbgeaaProg.lean LOADS. Nothing in Lean hashes anything: it is a label: what it is worth is what the hold of that sum in a sandbox is worth. -/
noncomputable def Try.pinned : Pinned := { name := "ytibnmnkembbgeaa", sum := "6e85903224da2d47aa140dd1ac16c0259ee65791c36456db9aaacb93dc13774b", checked := Try.checked }
namespace Rows
def none {H : Type} : Left H := { results := [], args := [] }

/-- 'laws.FnExactFlashRight': WHATEVER THE INPUT: true; the input reads as it did. -/
def fnExactFlashRightSpec : ChangeSpec := { name := "fnExactFlashRight", fn := fun _ => fun
  | [d] => { results := [.lit (.bool true)], args := [d] }
  | _ => none }
def fnExactFlashRightRow : OpenClaim := { program := "ytibnmnkembbgeaa", sum := "6e85903224da2d47aa140dd1ac16c0259ee65791c36456db9aaacb93dc13774b", func := "loop.example/g00668/laws.FnExactFlashRight", spec := "fnExactFlashRight", unfollowed := true, recurses := true, apart := false }
def FnExactFlashRightSaid : Prop := fnExactFlashRightRow.holds Try.pinned (OpenSpec.ofChange fnExactFlashRightSpec)

/-- ITS FALSE NEIGHBOUR: 'it returns false'. Refute it at one input. -/
def fnExactFlashRightWrong : ChangeSpec := { name := "fnExactFlashRight", fn := fun _ => fun
  | [d] => { results := [.lit (.bool false)], args := [d] }
  | _ => none }
def FnExactFlashRightWrongFalsely : Prop := fnExactFlashRightRow.holds Try.pinned (OpenSpec.ofChange fnExactFlashRightWrong)

/-- 'laws.FnExactFlashSync': WHATEVER THE INPUT: true; the input reads as it did. -/
def fnExactFlashSyncSpec : ChangeSpec := { name := "fnExactFlashSync", fn := fun _ => fun
  | [d] => { results := [.lit (.bool true)], args := [d] }
  | _ => none }
def fnExactFlashSyncRow : OpenClaim := { program := "ytibnmnkembbgeaa", sum := "6e85903224da2d47aa140dd1ac16c0259ee65791c36456db9aaacb93dc13774b", func := "loop.example/g00668/laws.FnExactFlashSync", spec := "fnExactFlashSync", unfollowed := true, recurses := true, apart := false }
def FnExactFlashSyncSaid : Prop := fnExactFlashSyncRow.holds Try.pinned (OpenSpec.ofChange fnExactFlashSyncSpec)

/-- ITS FALSE NEIGHBOUR: 'it returns false'. Refute it at one input. -/
def fnExactFlashSyncWrong : ChangeSpec := { name := "fnExactFlashSync", fn := fun _ => fun
  | [d] => { results := [.lit (.bool false)], args := [d] }
  | _ => none }
def FnExactFlashSyncWrongFalsely : Prop := fnExactFlashSyncRow.holds Try.pinned (OpenSpec.ofChange fnExactFlashSyncWrong)

/-- 'laws.FnExactMetaRead': WHATEVER THE INPUT: true; the input reads as it did. -/
def fnExactMetaReadSpec : ChangeSpec := { name := "fnExactMetaRead", fn := fun _ => fun
  | [d] => { results := [.lit (.bool true)], args := [d] }
  | _ => none }
def fnExactMetaReadRow : OpenClaim := { program := "ytibnmnkembbgeaa", sum := "6e85903224da2d47aa140dd1ac16c0259ee65791c36456db9aaacb93dc13774b", func := "loop.example/g00668/laws.FnExactMetaRead", spec := "fnExactMetaRead", apart := false }
def FnExactMetaReadSaid : Prop := fnExactMetaReadRow.holds Try.pinned (OpenSpec.ofChange fnExactMetaReadSpec)

/-- ITS FALSE NEIGHBOUR: 'it returns false'. Refute it at one input. -/
def fnExactMetaReadWrong : ChangeSpec := { name := "fnExactMetaRead", fn := fun _ => fun
  | [d] => { results := [.lit (.bool false)], args := [d] }
  | _ => none }
def FnExactMetaReadWrongFalsely : Prop := fnExactMetaReadRow.holds Try.pinned (OpenSpec.ofChange fnExactMetaReadWrong)

/-- 'laws.FnExactFlashRead': WHATEVER THE INPUT: true; the input reads as it did. -/
def fnExactFlashReadSpec : ChangeSpec := { name := "fnExactFlashRead", fn := fun _ => fun
  | [d1, d2] => { results := [.lit (.bool true)], args := [d1, d2] }
  | _ => none }
def fnExactFlashReadRow : OpenClaim := { program := "ytibnmnkembbgeaa", sum := "6e85903224da2d47aa140dd1ac16c0259ee65791c36456db9aaacb93dc13774b", func := "loop.example/g00668/laws.FnExactFlashRead", spec := "fnExactFlashRead", unfollowed := true, recurses := true, apart := false }
def FnExactFlashReadSaid : Prop := fnExactFlashReadRow.holds Try.pinned (OpenSpec.ofChange fnExactFlashReadSpec)

/-- ITS FALSE NEIGHBOUR: 'it returns false'. Refute it at one input. -/
def fnExactFlashReadWrong : ChangeSpec := { name := "fnExactFlashRead", fn := fun _ => fun
  | [d1, d2] => { results := [.lit (.bool false)], args := [d1, d2] }
  | _ => none }
def FnExactFlashReadWrongFalsely : Prop := fnExactFlashReadRow.holds Try.pinned (OpenSpec.ofChange fnExactFlashReadWrong)

/-- 'laws.FnExactFlashWrite': WHATEVER THE INPUT: true; the input reads as it did. -/
def fnExactFlashWriteSpec : ChangeSpec := { name := "fnExactFlashWrite", fn := fun _ => fun
  | [d1, d2, d3] => { results := [.lit (.bool true)], args := [d1, d2, d3] }
  | _ => none }
def fnExactFlashWriteRow : OpenClaim := { program := "ytibnmnkembbgeaa", sum := "6e85903224da2d47aa140dd1ac16c0259ee65791c36456db9aaacb93dc13774b", func := "loop.example/g00668/laws.FnExactFlashWrite", spec := "fnExactFlashWrite", unfollowed := true, recurses := true, apart := false }
def FnExactFlashWriteSaid : Prop := fnExactFlashWriteRow.holds Try.pinned (OpenSpec.ofChange fnExactFlashWriteSpec)

/-- ITS FALSE NEIGHBOUR: 'it returns false'. Refute it at one input. -/
def fnExactFlashWriteWrong : ChangeSpec := { name := "fnExactFlashWrite", fn := fun _ => fun
  | [d1, d2, d3] => { results := [.lit (.bool false)], args := [d1, d2, d3] }
  | _ => none }
def FnExactFlashWriteWrongFalsely : Prop := fnExactFlashWriteRow.holds Try.pinned (OpenSpec.ofChange fnExactFlashWriteWrong)

/-- 'laws.FnExactFlashCrash': WHATEVER THE INPUT: true; the input reads as it did. -/
def fnExactFlashCrashSpec : ChangeSpec := { name := "fnExactFlashCrash", fn := fun _ => fun
  | [d1, d2] => { results := [.lit (.bool true)], args := [d1, d2] }
  | _ => none }
def fnExactFlashCrashRow : OpenClaim := { program := "ytibnmnkembbgeaa", sum := "6e85903224da2d47aa140dd1ac16c0259ee65791c36456db9aaacb93dc13774b", func := "loop.example/g00668/laws.FnExactFlashCrash", spec := "fnExactFlashCrash", unfollowed := true, recurses := true, apart := false }
def FnExactFlashCrashSaid : Prop := fnExactFlashCrashRow.holds Try.pinned (OpenSpec.ofChange fnExactFlashCrashSpec)

/-- ITS FALSE NEIGHBOUR: 'it returns false'. Refute it at one input. -/
def fnExactFlashCrashWrong : ChangeSpec := { name := "fnExactFlashCrash", fn := fun _ => fun
  | [d1, d2] => { results := [.lit (.bool false)], args := [d1, d2] }
  | _ => none }
def FnExactFlashCrashWrongFalsely : Prop := fnExactFlashCrashRow.holds Try.pinned (OpenSpec.ofChange fnExactFlashCrashWrong)

/-- 'laws.FnExactActsDo': WHATEVER THE INPUT: true; the input reads as it did. -/
def fnExactActsDoSpec : ChangeSpec := { name := "fnExactActsDo", fn := fun _ => fun
  | [d1, d2] => { results := [.lit (.bool true)], args := [d1, d2] }
  | _ => none }
def fnExactActsDoRow : OpenClaim := { program := "ytibnmnkembbgeaa", sum := "6e85903224da2d47aa140dd1ac16c0259ee65791c36456db9aaacb93dc13774b", func := "loop.example/g00668/laws.FnExactActsDo", spec := "fnExactActsDo", unfollowed := true, recurses := true, apart := false }
def FnExactActsDoSaid : Prop := fnExactActsDoRow.holds Try.pinned (OpenSpec.ofChange fnExactActsDoSpec)

/-- ITS FALSE NEIGHBOUR: 'it returns false'. Refute it at one input. -/
def fnExactActsDoWrong : ChangeSpec := { name := "fnExactActsDo", fn := fun _ => fun
  | [d1, d2] => { results := [.lit (.bool false)], args := [d1, d2] }
  | _ => none }
def FnExactActsDoWrongFalsely : Prop := fnExactActsDoRow.holds Try.pinned (OpenSpec.ofChange fnExactActsDoWrong)

/-- 'laws.FnExactMetaGet': WHATEVER THE INPUT: true; the input reads as it did. -/
def fnExactMetaGetSpec : ChangeSpec := { name := "fnExactMetaGet", fn := fun _ => fun
  | [d] => { results := [.lit (.bool true)], args := [d] }
  | _ => none }
def fnExactMetaGetRow : OpenClaim := { program := "ytibnmnkembbgeaa", sum := "6e85903224da2d47aa140dd1ac16c0259ee65791c36456db9aaacb93dc13774b", func := "loop.example/g00668/laws.FnExactMetaGet", spec := "fnExactMetaGet", unfollowed := true, recurses := true, apart := false }
def FnExactMetaGetSaid : Prop := fnExactMetaGetRow.holds Try.pinned (OpenSpec.ofChange fnExactMetaGetSpec)

/-- ITS FALSE NEIGHBOUR: 'it returns false'. Refute it at one input. -/
def fnExactMetaGetWrong : ChangeSpec := { name := "fnExactMetaGet", fn := fun _ => fun
  | [d] => { results := [.lit (.bool false)], args := [d] }
  | _ => none }
def FnExactMetaGetWrongFalsely : Prop := fnExactMetaGetRow.holds Try.pinned (OpenSpec.ofChange fnExactMetaGetWrong)

/-- 'laws.FnExactMetaActs': WHATEVER THE INPUT: true; the input reads as it did. -/
def fnExactMetaActsSpec : ChangeSpec := { name := "fnExactMetaActs", fn := fun _ => fun
  | [d1, d2] => { results := [.lit (.bool true)], args := [d1, d2] }
  | _ => none }
def fnExactMetaActsRow : OpenClaim := { program := "ytibnmnkembbgeaa", sum := "6e85903224da2d47aa140dd1ac16c0259ee65791c36456db9aaacb93dc13774b", func := "loop.example/g00668/laws.FnExactMetaActs", spec := "fnExactMetaActs", unfollowed := true, recurses := true, apart := false }
def FnExactMetaActsSaid : Prop := fnExactMetaActsRow.holds Try.pinned (OpenSpec.ofChange fnExactMetaActsSpec)

/-- ITS FALSE NEIGHBOUR: 'it returns false'. Refute it at one input. -/
def fnExactMetaActsWrong : ChangeSpec := { name := "fnExactMetaActs", fn := fun _ => fun
  | [d1, d2] => { results := [.lit (.bool false)], args := [d1, d2] }
  | _ => none }
def FnExactMetaActsWrongFalsely : Prop := fnExactMetaActsRow.holds Try.pinned (OpenSpec.ofChange fnExactMetaActsWrong)

/-- 'laws.FnFlash': WHATEVER THE INPUT: true; the input reads as it did. -/
def fnFlashSpec : ChangeSpec := { name := "fnFlash", fn := fun _ => fun
  | [d1, d2] => { results := [.lit (.bool true)], args := [d1, d2] }
  | _ => none }
def fnFlashRow : OpenClaim := { program := "ytibnmnkembbgeaa", sum := "6e85903224da2d47aa140dd1ac16c0259ee65791c36456db9aaacb93dc13774b", func := "loop.example/g00668/laws.FnFlash", spec := "fnFlash", unfollowed := true, recurses := true, apart := false }
def FnFlashSaid : Prop := fnFlashRow.holds Try.pinned (OpenSpec.ofChange fnFlashSpec)

/-- ITS FALSE NEIGHBOUR: 'it returns false'. Refute it at one input. -/
def fnFlashWrong : ChangeSpec := { name := "fnFlash", fn := fun _ => fun
  | [d1, d2] => { results := [.lit (.bool false)], args := [d1, d2] }
  | _ => none }
def FnFlashWrongFalsely : Prop := fnFlashRow.holds Try.pinned (OpenSpec.ofChange fnFlashWrong)

/-- 'laws.FnMeta': WHATEVER THE INPUT: true; the input reads as it did. -/
def fnMetaSpec : ChangeSpec := { name := "fnMeta", fn := fun _ => fun
  | [d1, d2] => { results := [.lit (.bool true)], args := [d1, d2] }
  | _ => none }
def fnMetaRow : OpenClaim := { program := "ytibnmnkembbgeaa", sum := "6e85903224da2d47aa140dd1ac16c0259ee65791c36456db9aaacb93dc13774b", func := "loop.example/g00668/laws.FnMeta", spec := "fnMeta", unfollowed := true, recurses := true, apart := false }
def FnMetaSaid : Prop := fnMetaRow.holds Try.pinned (OpenSpec.ofChange fnMetaSpec)

/-- ITS FALSE NEIGHBOUR: 'it returns false'. Refute it at one input. -/
def fnMetaWrong : ChangeSpec := { name := "fnMeta", fn := fun _ => fun
  | [d1, d2] => { results := [.lit (.bool false)], args := [d1, d2] }
  | _ => none }
def FnMetaWrongFalsely : Prop := fnMetaRow.holds Try.pinned (OpenSpec.ofChange fnMetaWrong)

/- THE SECOND FORM. 'bulk': how many values and letters a reading holds, each counted each time it is reached (what is shared counts as often as it is met; a slice's spare places count too). A statement '..UptoSaid' is the law's where the arguments, and the package variables that the reading takes, are together of bulk at most 1048576: NARROWER than '..Said'. Prove '..Said' where nothing that the law and all that it calls make is longer than what came in: it says more and counts as full. Else prove '..UptoSaid'. A law counts once. -/
mutual
def uptoBulk {H : Type} : DataW H → Nat
  | .lit (.string bytes) => bytes.length + 1
  | .lit _ => 1
  | .nil => 1
  | .ptr d => uptoBulk d + 1
  | .slice elems spare => uptoBulkAll elems + uptoBulkAll spare + 1
  | .agg parts => uptoBulkAll parts + 1
  | .iface _ d => uptoBulk d + 1
  | .map entries => uptoBulkEntries entries + 1
  | .held _ => 1
def uptoBulkAll {H : Type} : List (DataW H) → Nat
  | [] => 0
  | d :: r => uptoBulk d + uptoBulkAll r
def uptoBulkEntries {H : Type} : List (Lit × DataW H) → Nat
  | [] => 0
  | x :: r => uptoBulkEntry x + uptoBulkEntries r
def uptoBulkEntry {H : Type} : Lit × DataW H → Nat
  | (.string bytes, d) => bytes.length + uptoBulk d + 1
  | (_, d) => uptoBulk d + 1
 end
def uptoSmall : (H : Type) → List (DataW H) → Bool := fun _ ds => decide (uptoBulkAll ds ≤ 1048576)
def OpenSpec.upto (s : _root_.Go.ChangeSpec) : _root_.Go.OpenSpec := { _root_.Go.OpenSpec.ofChange s with cond := some uptoSmall }

/-- 'laws.FnExactFlashRight', WHERE WHAT IT READS IS OF BULK AT MOST 1048576: true; the input reads as it did. -/
def fnExactFlashRightUptoRow : OpenClaim := { program := "ytibnmnkembbgeaa", sum := "6e85903224da2d47aa140dd1ac16c0259ee65791c36456db9aaacb93dc13774b", func := "loop.example/g00668/laws.FnExactFlashRight", spec := "fnExactFlashRight", unfollowed := true, recurses := true, apart := false, narrowed := true }
def FnExactFlashRightUptoSaid : Prop := fnExactFlashRightUptoRow.holds Try.pinned (OpenSpec.upto fnExactFlashRightSpec)

/-- 'laws.FnExactFlashSync', WHERE WHAT IT READS IS OF BULK AT MOST 1048576: true; the input reads as it did. -/
def fnExactFlashSyncUptoRow : OpenClaim := { program := "ytibnmnkembbgeaa", sum := "6e85903224da2d47aa140dd1ac16c0259ee65791c36456db9aaacb93dc13774b", func := "loop.example/g00668/laws.FnExactFlashSync", spec := "fnExactFlashSync", unfollowed := true, recurses := true, apart := false, narrowed := true }
def FnExactFlashSyncUptoSaid : Prop := fnExactFlashSyncUptoRow.holds Try.pinned (OpenSpec.upto fnExactFlashSyncSpec)

/-- 'laws.FnExactMetaRead', WHERE WHAT IT READS IS OF BULK AT MOST 1048576: true; the input reads as it did. -/
def fnExactMetaReadUptoRow : OpenClaim := { program := "ytibnmnkembbgeaa", sum := "6e85903224da2d47aa140dd1ac16c0259ee65791c36456db9aaacb93dc13774b", func := "loop.example/g00668/laws.FnExactMetaRead", spec := "fnExactMetaRead", apart := false, narrowed := true }
def FnExactMetaReadUptoSaid : Prop := fnExactMetaReadUptoRow.holds Try.pinned (OpenSpec.upto fnExactMetaReadSpec)

/-- 'laws.FnExactFlashRead', WHERE WHAT IT READS IS OF BULK AT MOST 1048576: true; the input reads as it did. -/
def fnExactFlashReadUptoRow : OpenClaim := { program := "ytibnmnkembbgeaa", sum := "6e85903224da2d47aa140dd1ac16c0259ee65791c36456db9aaacb93dc13774b", func := "loop.example/g00668/laws.FnExactFlashRead", spec := "fnExactFlashRead", unfollowed := true, recurses := true, apart := false, narrowed := true }
def FnExactFlashReadUptoSaid : Prop := fnExactFlashReadUptoRow.holds Try.pinned (OpenSpec.upto fnExactFlashReadSpec)

/-- 'laws.FnExactFlashWrite', WHERE WHAT IT READS IS OF BULK AT MOST 1048576: true; the input reads as it did. -/
def fnExactFlashWriteUptoRow : OpenClaim := { program := "ytibnmnkembbgeaa", sum := "6e85903224da2d47aa140dd1ac16c0259ee65791c36456db9aaacb93dc13774b", func := "loop.example/g00668/laws.FnExactFlashWrite", spec := "fnExactFlashWrite", unfollowed := true, recurses := true, apart := false, narrowed := true }
def FnExactFlashWriteUptoSaid : Prop := fnExactFlashWriteUptoRow.holds Try.pinned (OpenSpec.upto fnExactFlashWriteSpec)

/-- 'laws.FnExactFlashCrash', WHERE WHAT IT READS IS OF BULK AT MOST 1048576: true; the input reads as it did. -/
def fnExactFlashCrashUptoRow : OpenClaim := { program := "ytibnmnkembbgeaa", sum := "6e85903224da2d47aa140dd1ac16c0259ee65791c36456db9aaacb93dc13774b", func := "loop.example/g00668/laws.FnExactFlashCrash", spec := "fnExactFlashCrash", unfollowed := true, recurses := true, apart := false, narrowed := true }
def FnExactFlashCrashUptoSaid : Prop := fnExactFlashCrashUptoRow.holds Try.pinned (OpenSpec.upto fnExactFlashCrashSpec)

/-- 'laws.FnExactActsDo', WHERE WHAT IT READS IS OF BULK AT MOST 1048576: true; the input reads as it did. -/
def fnExactActsDoUptoRow : OpenClaim := { program := "ytibnmnkembbgeaa", sum := "6e85903224da2d47aa140dd1ac16c0259ee65791c36456db9aaacb93dc13774b", func := "loop.example/g00668/laws.FnExactActsDo", spec := "fnExactActsDo", unfollowed := true, recurses := true, apart := false, narrowed := true }
def FnExactActsDoUptoSaid : Prop := fnExactActsDoUptoRow.holds Try.pinned (OpenSpec.upto fnExactActsDoSpec)

/-- 'laws.FnExactMetaGet', WHERE WHAT IT READS IS OF BULK AT MOST 1048576: true; the input reads as it did. -/
def fnExactMetaGetUptoRow : OpenClaim := { program := "ytibnmnkembbgeaa", sum := "6e85903224da2d47aa140dd1ac16c0259ee65791c36456db9aaacb93dc13774b", func := "loop.example/g00668/laws.FnExactMetaGet", spec := "fnExactMetaGet", unfollowed := true, recurses := true, apart := false, narrowed := true }
def FnExactMetaGetUptoSaid : Prop := fnExactMetaGetUptoRow.holds Try.pinned (OpenSpec.upto fnExactMetaGetSpec)

/-- 'laws.FnExactMetaActs', WHERE WHAT IT READS IS OF BULK AT MOST 1048576: true; the input reads as it did. -/
def fnExactMetaActsUptoRow : OpenClaim := { program := "ytibnmnkembbgeaa", sum := "6e85903224da2d47aa140dd1ac16c0259ee65791c36456db9aaacb93dc13774b", func := "loop.example/g00668/laws.FnExactMetaActs", spec := "fnExactMetaActs", unfollowed := true, recurses := true, apart := false, narrowed := true }
def FnExactMetaActsUptoSaid : Prop := fnExactMetaActsUptoRow.holds Try.pinned (OpenSpec.upto fnExactMetaActsSpec)

/-- 'laws.FnFlash', WHERE WHAT IT READS IS OF BULK AT MOST 1048576: true; the input reads as it did. -/
def fnFlashUptoRow : OpenClaim := { program := "ytibnmnkembbgeaa", sum := "6e85903224da2d47aa140dd1ac16c0259ee65791c36456db9aaacb93dc13774b", func := "loop.example/g00668/laws.FnFlash", spec := "fnFlash", unfollowed := true, recurses := true, apart := false, narrowed := true }
def FnFlashUptoSaid : Prop := fnFlashUptoRow.holds Try.pinned (OpenSpec.upto fnFlashSpec)

/-- 'laws.FnMeta', WHERE WHAT IT READS IS OF BULK AT MOST 1048576: true; the input reads as it did. -/
def fnMetaUptoRow : OpenClaim := { program := "ytibnmnkembbgeaa", sum := "6e85903224da2d47aa140dd1ac16c0259ee65791c36456db9aaacb93dc13774b", func := "loop.example/g00668/laws.FnMeta", spec := "fnMeta", unfollowed := true, recurses := true, apart := false, narrowed := true }
def FnMetaUptoSaid : Prop := fnMetaUptoRow.holds Try.pinned (OpenSpec.upto fnMetaSpec)

end Rows
end Go.Proofs.Ytibnmnkembbgeaa
