/-
  No cell of these rows narrows 'for every input' (looked for: loops, veiled, ifaces, maps, wideKeys, modest, calm, conditions, laid).
  DERIVED. THE GIVEN ROWS OF THIS SEAT. 9 by the template 'for every input the law returns true; each argument reads behind the call as it read before'; 0 by the template 'total and deterministic' (their statements: YthlcpdmbeiaidaaTotals.lean).
  GIVEN WITH THE SEED: the statements are not yours to turn. If you find one false, say at which input.
  Laid BY PROGRAM, IN A SANDBOX (cutbox-rows.mjs): the forced cells as the released guide's own fill.sh prints them over the translation 90fd569d3134a234… (all of the seat's roots in one cut). By AI agents, Wed Nov 11 2026. No macro, syntax, notation, axiom, sorry.
-/
import Derived.Test.YthlcpdmbeiaidaaChecked
import GoSem.Claim
import GoSem.ClaimJoined
import GoSem.ClaimMapViews
import Derived.JoinedTies
import Derived.KernelRfl
namespace Go.Proofs.Ythlcpdmbeiaidaa
/- THE CELL 'sum', in the pinned program and in every row, IS THE sha256 OF THE DUMP (.gsa) THAT YthlcpdmbeiaidaaProg.lean LOADS. Nothing in Lean hashes anything: it is a label: what it is worth is what the hold of that sum in a sandbox is worth. -/
noncomputable def Try.pinned : Pinned := { name := "ythlcpdmbeiaidaa", sum := "90fd569d3134a2344143f4d27bf63cdf0a733200f9b61898a775b29683455ab0", checked := Try.checked }
namespace Rows
def none {H : Type} : Left H := { results := [], args := [] }

/-- 'laws.FnExactListRight': WHATEVER THE INPUT: true; the input reads as it did. -/
def fnExactListRightSpec : ChangeSpec := { name := "fnExactListRight", fn := fun _ => fun
  | [d] => { results := [.lit (.bool true)], args := [d] }
  | _ => none }
def fnExactListRightRow : OpenClaim := { program := "ythlcpdmbeiaidaa", sum := "90fd569d3134a2344143f4d27bf63cdf0a733200f9b61898a775b29683455ab0", func := "loop.example/g00668/laws.FnExactListRight", spec := "fnExactListRight", apart := false }
def FnExactListRightSaid : Prop := fnExactListRightRow.holds Try.pinned (OpenSpec.ofChange fnExactListRightSpec)

/-- ITS FALSE NEIGHBOUR: 'it returns false'. Refute it at one input. -/
def fnExactListRightWrong : ChangeSpec := { name := "fnExactListRight", fn := fun _ => fun
  | [d] => { results := [.lit (.bool false)], args := [d] }
  | _ => none }
def FnExactListRightWrongFalsely : Prop := fnExactListRightRow.holds Try.pinned (OpenSpec.ofChange fnExactListRightWrong)

/-- 'laws.FnExactFromBits': WHATEVER THE INPUT: true; the input reads as it did. -/
def fnExactFromBitsSpec : ChangeSpec := { name := "fnExactFromBits", fn := fun _ => fun
  | [d] => { results := [.lit (.bool true)], args := [d] }
  | _ => none }
def fnExactFromBitsRow : OpenClaim := { program := "ythlcpdmbeiaidaa", sum := "90fd569d3134a2344143f4d27bf63cdf0a733200f9b61898a775b29683455ab0", func := "loop.example/g00668/laws.FnExactFromBits", spec := "fnExactFromBits", apart := false }
def FnExactFromBitsSaid : Prop := fnExactFromBitsRow.holds Try.pinned (OpenSpec.ofChange fnExactFromBitsSpec)

/-- ITS FALSE NEIGHBOUR: 'it returns false'. Refute it at one input. -/
def fnExactFromBitsWrong : ChangeSpec := { name := "fnExactFromBits", fn := fun _ => fun
  | [d] => { results := [.lit (.bool false)], args := [d] }
  | _ => none }
def FnExactFromBitsWrongFalsely : Prop := fnExactFromBitsRow.holds Try.pinned (OpenSpec.ofChange fnExactFromBitsWrong)

/-- 'laws.FnExactBitsOf': WHATEVER THE INPUT: true; the input reads as it did. -/
def fnExactBitsOfSpec : ChangeSpec := { name := "fnExactBitsOf", fn := fun _ => fun
  | [d] => { results := [.lit (.bool true)], args := [d] }
  | _ => none }
def fnExactBitsOfRow : OpenClaim := { program := "ythlcpdmbeiaidaa", sum := "90fd569d3134a2344143f4d27bf63cdf0a733200f9b61898a775b29683455ab0", func := "loop.example/g00668/laws.FnExactBitsOf", spec := "fnExactBitsOf", apart := false }
def FnExactBitsOfSaid : Prop := fnExactBitsOfRow.holds Try.pinned (OpenSpec.ofChange fnExactBitsOfSpec)

/-- ITS FALSE NEIGHBOUR: 'it returns false'. Refute it at one input. -/
def fnExactBitsOfWrong : ChangeSpec := { name := "fnExactBitsOf", fn := fun _ => fun
  | [d] => { results := [.lit (.bool false)], args := [d] }
  | _ => none }
def FnExactBitsOfWrongFalsely : Prop := fnExactBitsOfRow.holds Try.pinned (OpenSpec.ofChange fnExactBitsOfWrong)

/-- 'laws.FnExactFreeOf': WHATEVER THE INPUT: true; the input reads as it did. -/
def fnExactFreeOfSpec : ChangeSpec := { name := "fnExactFreeOf", fn := fun _ => fun
  | [d1, d2] => { results := [.lit (.bool true)], args := [d1, d2] }
  | _ => none }
def fnExactFreeOfRow : OpenClaim := { program := "ythlcpdmbeiaidaa", sum := "90fd569d3134a2344143f4d27bf63cdf0a733200f9b61898a775b29683455ab0", func := "loop.example/g00668/laws.FnExactFreeOf", spec := "fnExactFreeOf", apart := false }
def FnExactFreeOfSaid : Prop := fnExactFreeOfRow.holds Try.pinned (OpenSpec.ofChange fnExactFreeOfSpec)

/-- ITS FALSE NEIGHBOUR: 'it returns false'. Refute it at one input. -/
def fnExactFreeOfWrong : ChangeSpec := { name := "fnExactFreeOf", fn := fun _ => fun
  | [d1, d2] => { results := [.lit (.bool false)], args := [d1, d2] }
  | _ => none }
def FnExactFreeOfWrongFalsely : Prop := fnExactFreeOfRow.holds Try.pinned (OpenSpec.ofChange fnExactFreeOfWrong)

/-- 'laws.FnExactExtentsOf': WHATEVER THE INPUT: true; the input reads as it did. -/
def fnExactExtentsOfSpec : ChangeSpec := { name := "fnExactExtentsOf", fn := fun _ => fun
  | [d] => { results := [.lit (.bool true)], args := [d] }
  | _ => none }
def fnExactExtentsOfRow : OpenClaim := { program := "ythlcpdmbeiaidaa", sum := "90fd569d3134a2344143f4d27bf63cdf0a733200f9b61898a775b29683455ab0", func := "loop.example/g00668/laws.FnExactExtentsOf", spec := "fnExactExtentsOf", apart := false }
def FnExactExtentsOfSaid : Prop := fnExactExtentsOfRow.holds Try.pinned (OpenSpec.ofChange fnExactExtentsOfSpec)

/-- ITS FALSE NEIGHBOUR: 'it returns false'. Refute it at one input. -/
def fnExactExtentsOfWrong : ChangeSpec := { name := "fnExactExtentsOf", fn := fun _ => fun
  | [d] => { results := [.lit (.bool false)], args := [d] }
  | _ => none }
def FnExactExtentsOfWrongFalsely : Prop := fnExactExtentsOfRow.holds Try.pinned (OpenSpec.ofChange fnExactExtentsOfWrong)

/-- 'laws.FnExactListOf': WHATEVER THE INPUT: true; the input reads as it did. -/
def fnExactListOfSpec : ChangeSpec := { name := "fnExactListOf", fn := fun _ => fun
  | [d] => { results := [.lit (.bool true)], args := [d] }
  | _ => none }
def fnExactListOfRow : OpenClaim := { program := "ythlcpdmbeiaidaa", sum := "90fd569d3134a2344143f4d27bf63cdf0a733200f9b61898a775b29683455ab0", func := "loop.example/g00668/laws.FnExactListOf", spec := "fnExactListOf", apart := false }
def FnExactListOfSaid : Prop := fnExactListOfRow.holds Try.pinned (OpenSpec.ofChange fnExactListOfSpec)

/-- ITS FALSE NEIGHBOUR: 'it returns false'. Refute it at one input. -/
def fnExactListOfWrong : ChangeSpec := { name := "fnExactListOf", fn := fun _ => fun
  | [d] => { results := [.lit (.bool false)], args := [d] }
  | _ => none }
def FnExactListOfWrongFalsely : Prop := fnExactListOfRow.holds Try.pinned (OpenSpec.ofChange fnExactListOfWrong)

/-- 'laws.FnExactReserve': WHATEVER THE INPUT: true; the input reads as it did. -/
def fnExactReserveSpec : ChangeSpec := { name := "fnExactReserve", fn := fun _ => fun
  | [d1, d2, d3] => { results := [.lit (.bool true)], args := [d1, d2, d3] }
  | _ => none }
def fnExactReserveRow : OpenClaim := { program := "ythlcpdmbeiaidaa", sum := "90fd569d3134a2344143f4d27bf63cdf0a733200f9b61898a775b29683455ab0", func := "loop.example/g00668/laws.FnExactReserve", spec := "fnExactReserve", apart := false }
def FnExactReserveSaid : Prop := fnExactReserveRow.holds Try.pinned (OpenSpec.ofChange fnExactReserveSpec)

/-- ITS FALSE NEIGHBOUR: 'it returns false'. Refute it at one input. -/
def fnExactReserveWrong : ChangeSpec := { name := "fnExactReserve", fn := fun _ => fun
  | [d1, d2, d3] => { results := [.lit (.bool false)], args := [d1, d2, d3] }
  | _ => none }
def FnExactReserveWrongFalsely : Prop := fnExactReserveRow.holds Try.pinned (OpenSpec.ofChange fnExactReserveWrong)

/-- 'laws.FnReserve': WHATEVER THE INPUT: true; the input reads as it did. -/
def fnReserveSpec : ChangeSpec := { name := "fnReserve", fn := fun _ => fun
  | [d] => { results := [.lit (.bool true)], args := [d] }
  | _ => none }
def fnReserveRow : OpenClaim := { program := "ythlcpdmbeiaidaa", sum := "90fd569d3134a2344143f4d27bf63cdf0a733200f9b61898a775b29683455ab0", func := "loop.example/g00668/laws.FnReserve", spec := "fnReserve", apart := false }
def FnReserveSaid : Prop := fnReserveRow.holds Try.pinned (OpenSpec.ofChange fnReserveSpec)

/-- ITS FALSE NEIGHBOUR: 'it returns false'. Refute it at one input. -/
def fnReserveWrong : ChangeSpec := { name := "fnReserve", fn := fun _ => fun
  | [d] => { results := [.lit (.bool false)], args := [d] }
  | _ => none }
def FnReserveWrongFalsely : Prop := fnReserveRow.holds Try.pinned (OpenSpec.ofChange fnReserveWrong)

/-- 'laws.FnArea': WHATEVER THE INPUT: true; the input reads as it did. -/
def fnAreaSpec : ChangeSpec := { name := "fnArea", fn := fun _ => fun
  | [d1, d2] => { results := [.lit (.bool true)], args := [d1, d2] }
  | _ => none }
def fnAreaRow : OpenClaim := { program := "ythlcpdmbeiaidaa", sum := "90fd569d3134a2344143f4d27bf63cdf0a733200f9b61898a775b29683455ab0", func := "loop.example/g00668/laws.FnArea", spec := "fnArea", apart := false }
def FnAreaSaid : Prop := fnAreaRow.holds Try.pinned (OpenSpec.ofChange fnAreaSpec)

/-- ITS FALSE NEIGHBOUR: 'it returns false'. Refute it at one input. -/
def fnAreaWrong : ChangeSpec := { name := "fnArea", fn := fun _ => fun
  | [d1, d2] => { results := [.lit (.bool false)], args := [d1, d2] }
  | _ => none }
def FnAreaWrongFalsely : Prop := fnAreaRow.holds Try.pinned (OpenSpec.ofChange fnAreaWrong)

/- THE SECOND FORM. 'bulk': how many values and letters a reading holds, each counted each time it is reached (what is shared counts as often as it is met; a slice's spare places count too). A statement '..UptoSaid' is the law's where the arguments, and the package variables that the reading takes, are together of bulk at most 1048576: NARROWER than '..Said'. Prove '..Said' where nothing that the law and all that it calls make is longer than what came in: it says more and counts as full. Else prove '..UptoSaid'. A law counts once. -/
mutual
def uptoBulk {H : Type} : DataW H → Nat
  | .lit (.string bytes) => bytes.length + 1
  | .lit _ => 1
  | .nil => 1
  | .ptr d => uptoBulk d + 1
  | .slice elems spare => uptoBulkAll elems + uptoBulkAll spare + 1
  | .agg parts => uptoBulkAll parts + 1
  | .iface _ d => uptoBulk d + 1
  | .map entries => uptoBulkEntries entries + 1
  | .held _ => 1
def uptoBulkAll {H : Type} : List (DataW H) → Nat
  | [] => 0
  | d :: r => uptoBulk d + uptoBulkAll r
def uptoBulkEntries {H : Type} : List (Lit × DataW H) → Nat
  | [] => 0
  | x :: r => uptoBulkEntry x + uptoBulkEntries r
def uptoBulkEntry {H : Type} : Lit × DataW H → Nat
  | (.string bytes, d) => bytes.length + uptoBulk d + 1
  | (_, d) => uptoBulk d + 1
 end
def uptoSmall : (H : Type) → List (DataW H) → Bool := fun _ ds => decide (uptoBulkAll ds ≤ 1048576)
def OpenSpec.upto (s : _root_.Go.ChangeSpec) : _root_.Go.OpenSpec := { _root_.Go.OpenSpec.ofChange s with cond := some uptoSmall }

/-- 'laws.FnExactListRight', WHERE WHAT IT READS IS OF BULK AT MOST 1048576: true; the input reads as it did. -/
def fnExactListRightUptoRow : OpenClaim := { program := "ythlcpdmbeiaidaa", sum := "90fd569d3134a2344143f4d27bf63cdf0a733200f9b61898a775b29683455ab0", func := "loop.example/g00668/laws.FnExactListRight", spec := "fnExactListRight", apart := false, narrowed := true }
def FnExactListRightUptoSaid : Prop := fnExactListRightUptoRow.holds Try.pinned (OpenSpec.upto fnExactListRightSpec)

/-- 'laws.FnExactFromBits', WHERE WHAT IT READS IS OF BULK AT MOST 1048576: true; the input reads as it did. -/
def fnExactFromBitsUptoRow : OpenClaim := { program := "ythlcpdmbeiaidaa", sum := "90fd569d3134a2344143f4d27bf63cdf0a733200f9b61898a775b29683455ab0", func := "loop.example/g00668/laws.FnExactFromBits", spec := "fnExactFromBits", apart := false, narrowed := true }
def FnExactFromBitsUptoSaid : Prop := fnExactFromBitsUptoRow.holds Try.pinned (OpenSpec.upto fnExactFromBitsSpec)

/-- 'laws.FnExactBitsOf', WHERE WHAT IT READS IS OF BULK AT MOST 1048576: true; the input reads as it did. -/
def fnExactBitsOfUptoRow : OpenClaim := { program := "ythlcpdmbeiaidaa", sum := "90fd569d3134a2344143f4d27bf63cdf0a733200f9b61898a775b29683455ab0", func := "loop.example/g00668/laws.FnExactBitsOf", spec := "fnExactBitsOf", apart := false, narrowed := true }
def FnExactBitsOfUptoSaid : Prop := fnExactBitsOfUptoRow.holds Try.pinned (OpenSpec.upto fnExactBitsOfSpec)

/-- 'laws.FnExactFreeOf', WHERE WHAT IT READS IS OF BULK AT MOST 1048576: true; the input reads as it did. -/
def fnExactFreeOfUptoRow : OpenClaim := { program := "ythlcpdmbeiaidaa", sum := "90fd569d3134a2344143f4d27bf63cdf0a733200f9b61898a775b29683455ab0", func := "loop.example/g00668/laws.FnExactFreeOf", spec := "fnExactFreeOf", apart := false, narrowed := true }
def FnExactFreeOfUptoSaid : Prop := fnExactFreeOfUptoRow.holds Try.pinned (OpenSpec.upto fnExactFreeOfSpec)

/-- 'laws.FnExactExtentsOf', WHERE WHAT IT READS IS OF BULK AT MOST 1048576: true; the input reads as it did. -/
def fnExactExtentsOfUptoRow : OpenClaim := { program := "ythlcpdmbeiaidaa", sum := "90fd569d3134a2344143f4d27bf63cdf0a733200f9b61898a775b29683455ab0", func := "loop.example/g00668/laws.FnExactExtentsOf", spec := "fnExactExtentsOf", apart := false, narrowed := true }
def FnExactExtentsOfUptoSaid : Prop := fnExactExtentsOfUptoRow.holds Try.pinned (OpenSpec.upto fnExactExtentsOfSpec)

/-- 'laws.FnExactListOf', WHERE WHAT IT READS IS OF BULK AT MOST 1048576: true; the input reads as it did. -/
def fnExactListOfUptoRow : OpenClaim := { program := "ythlcpdmbeiaidaa", sum := "90fd569d3134a2344143f4d27bf63cdf0a733200f9b61898a775b29683455ab0", func := "loop.example/g00668/laws.FnExactListOf", spec := "fnExactListOf", apart := false, narrowed := true }
def FnExactListOfUptoSaid : Prop := fnExactListOfUptoRow.holds Try.pinned (OpenSpec.upto fnExactListOfSpec)

/-- 'laws.FnExactReserve', WHERE WHAT IT READS IS OF BULK AT MOST 1048576: true; the input reads as it did. -/
def fnExactReserveUptoRow : OpenClaim := { program := "ythlcpdmbeiaidaa", sum := "90fd569d3134a2344143f4d27bf63cdf0a733200f9b61898a775b29683455ab0", func := "loop.example/g00668/laws.FnExactReserve", spec := "fnExactReserve", apart := false, narrowed := true }
def FnExactReserveUptoSaid : Prop := fnExactReserveUptoRow.holds Try.pinned (OpenSpec.upto fnExactReserveSpec)

/-- 'laws.FnReserve', WHERE WHAT IT READS IS OF BULK AT MOST 1048576: true; the input reads as it did. -/
def fnReserveUptoRow : OpenClaim := { program := "ythlcpdmbeiaidaa", sum := "90fd569d3134a2344143f4d27bf63cdf0a733200f9b61898a775b29683455ab0", func := "loop.example/g00668/laws.FnReserve", spec := "fnReserve", apart := false, narrowed := true }
def FnReserveUptoSaid : Prop := fnReserveUptoRow.holds Try.pinned (OpenSpec.upto fnReserveSpec)

/-- 'laws.FnArea', WHERE WHAT IT READS IS OF BULK AT MOST 1048576: true; the input reads as it did. -/
def fnAreaUptoRow : OpenClaim := { program := "ythlcpdmbeiaidaa", sum := "90fd569d3134a2344143f4d27bf63cdf0a733200f9b61898a775b29683455ab0", func := "loop.example/g00668/laws.FnArea", spec := "fnArea", apart := false, narrowed := true }
def FnAreaUptoSaid : Prop := fnAreaUptoRow.holds Try.pinned (OpenSpec.upto fnAreaSpec)

end Rows
end Go.Proofs.Ythlcpdmbeiaidaa
