/- For each Go function that the laws of this text reach: a Lean function, and the proof that the Go function returns what the Lean function tells, wherever it tells some value. Written by a program of this session. -/
import Derived.Test.YtjhlppbiahopkaaProg
import Derived.StillTailTactics
import Derived.Below
import Derived.Deep.Draws
import Derived.Deep.AppendLies
import Derived.Maps.AppendAt
import Derived.OwnWalk
import Derived.Laws.BytesArg
import Derived.Laws.MakeOwn
import Derived.Laws.OwnMore
import Derived.Deep.OwnRows
import Derived.Tactics
import Derived.Lib.ConvBytes
import Derived.Laws.Slices
import Derived.WalkKit
import Derived.KernelRfl
import Derived.RowKit3
import Derived.Deep.LoopGhost
import Derived.Deep.QuietTactic
import Derived.BigQuiet
import Derived.WideLaws
import Derived.Deep.DeepCutAuto
import Derived.Deep.CutBlock
import Derived.Deep.RegionHeld3
import Derived.Laws.Rows
import Derived.Lib.AppendStr
import Derived.ArgAppend
import Derived.Laws.IdiomCopy
import Derived.OrdersHeld
import Derived.Laws.BitsLemmas
import Derived.RowKit
import Derived.Test.YtjhlppbiahopkaaWWords
import Derived.Test.YtjhlppbiahopkaaWLast
import Derived.Test.YtjhlppbiahopkaaWTab
import Derived.Test.YtjhlppbiahopkaaWFour
import Derived.Test.YtjhlppbiahopkaaWQPut
import Derived.Test.YtjhlppbiahopkaaWApart
import Derived.Test.YtjhlppbiahopkaaWArr
import Derived.Test.YtjhlppbiahopkaaWZeros
import Derived.Test.YtjhlppbiahopkaaWFoot
import Derived.Test.YtjhlppbiahopkaaWKept
import Derived.Test.YtjhlppbiahopkaaWShare
import Derived.Test.YtjhlppbiahopkaaWN
import Derived.Test.YtjhlppbiahopkaaWFootNe
import Derived.Test.YtjhlppbiahopkaaWAt
import Derived.Test.YtjhlppbiahopkaaWEqStruct
import Derived.Test.YtjhlppbiahopkaaWRepsOne
import Derived.Test.YtjhlppbiahopkaaWInv
import Derived.Test.YtjhlppbiahopkaaWInvWords
import Derived.Test.YtjhlppbiahopkaaWGuard
import Derived.Test.YtjhlppbiahopkaaWNEv
import Derived.Test.YtjhlppbiahopkaaWMore
namespace Go.Proofs.Ytjhlppbiahopkaa.Q
open Go.RowKit Go.Proofs.YtjhlppbiahopkaaW.PrintWords Go.Proofs.YtjhlppbiahopkaaW.PrintLast Go.Proofs.YtjhlppbiahopkaaW.PrintMore
attribute [local go_sem] max2_int min2_int max_two min_two max_three min_three max_four min_four   -- for this text's walks alone
set_option linter.unusedVariables false
set_option linter.unusedSimpArgs false



def errW : Option Int → Value
  | none => .nilIface
  | some c => .iface 0 (.int .i64 c)
theorem errW_none : errW none = .nilIface := rfl
theorem errW_some (c : Int) : errW (some c) = .iface 0 (.int .i64 c) := rfl

theorem info5 : (Try.prog.info? 5).map (fun i => (i.zero, i.size, i.bytes)) = some (some (.int .u8 0), 1, 1) := by kernel_rfl
-- the values' own types

end Go.Proofs.Ytjhlppbiahopkaa.Q
