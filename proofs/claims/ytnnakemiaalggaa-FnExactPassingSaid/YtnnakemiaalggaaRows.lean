/-
  No cell of these rows narrows 'for every input' (looked for: loops, veiled, ifaces, maps, wideKeys, modest, calm, conditions, laid).
  DERIVED. THE GIVEN ROWS OF THIS SEAT. 12 by the template 'for every input the law returns true; each argument reads behind the call as it read before'; 0 by the template 'total and deterministic' (their statements: YtnnakemiaalggaaTotals.lean).
  GIVEN WITH THE SEED: the statements are not yours to turn. If you find one false, say at which input.
  Laid BY PROGRAM, IN A SANDBOX (cutbox-rows.mjs): the forced cells as the released guide's own fill.sh prints them over the translation e4878766a092ec34… (all of the seat's roots in one cut). By AI agents, Wed Nov 11 2026. No macro, syntax, notation, axiom, sorry.
-/
import Derived.Test.YtnnakemiaalggaaChecked
import GoSem.Claim
import GoSem.ClaimJoined
import GoSem.ClaimMapViews
import Derived.JoinedTies
import Derived.KernelRfl
namespace Go.Proofs.Ytnnakemiaalggaa
/- THE CELL 'sum', in the pinned program and in every row, IS THE sha256 OF THE DUMP (.gsa) THAT YtnnakemiaalggaaProg.lean LOADS. Nothing in Lean hashes anything: it is a label: what it is worth is what the hold of that sum in a sandbox is worth. -/
noncomputable def Try.pinned : Pinned := { name := "ytnnakemiaalggaa", sum := "e4878766a092ec34029ec2893f8dcfd6d7184b3b87a25e13c97ee24cf306575f", checked := Try.checked }
namespace Rows
def none {H : Type} : Left H := { results := [], args := [] }

/-- 'laws.FnExactTotal': WHATEVER THE INPUT: true; the input reads as it did. -/
def fnExactTotalSpec : ChangeSpec := { name := "fnExactTotal", fn := fun _ => fun
  | [d] => { results := [.lit (.bool true)], args := [d] }
  | _ => none }
def fnExactTotalRow : OpenClaim := { program := "ytnnakemiaalggaa", sum := "e4878766a092ec34029ec2893f8dcfd6d7184b3b87a25e13c97ee24cf306575f", func := "loop.example/g00238/laws.FnExactTotal", spec := "fnExactTotal", apart := false }
def FnExactTotalSaid : Prop := fnExactTotalRow.holds Try.pinned (OpenSpec.ofChange fnExactTotalSpec)

/-- ITS FALSE NEIGHBOUR: 'it returns false'. Refute it at one input. -/
def fnExactTotalWrong : ChangeSpec := { name := "fnExactTotal", fn := fun _ => fun
  | [d] => { results := [.lit (.bool false)], args := [d] }
  | _ => none }
def FnExactTotalWrongFalsely : Prop := fnExactTotalRow.holds Try.pinned (OpenSpec.ofChange fnExactTotalWrong)

/-- 'laws.FnExactGetInt': WHATEVER THE INPUT: true; the input reads as it did. -/
def fnExactGetIntSpec : ChangeSpec := { name := "fnExactGetInt", fn := fun _ => fun
  | [d1, d2] => { results := [.lit (.bool true)], args := [d1, d2] }
  | _ => none }
def fnExactGetIntRow : OpenClaim := { program := "ytnnakemiaalggaa", sum := "e4878766a092ec34029ec2893f8dcfd6d7184b3b87a25e13c97ee24cf306575f", func := "loop.example/g00238/laws.FnExactGetInt", spec := "fnExactGetInt", apart := false }
def FnExactGetIntSaid : Prop := fnExactGetIntRow.holds Try.pinned (OpenSpec.ofChange fnExactGetIntSpec)

/-- ITS FALSE NEIGHBOUR: 'it returns false'. Refute it at one input. -/
def fnExactGetIntWrong : ChangeSpec := { name := "fnExactGetInt", fn := fun _ => fun
  | [d1, d2] => { results := [.lit (.bool false)], args := [d1, d2] }
  | _ => none }
def FnExactGetIntWrongFalsely : Prop := fnExactGetIntRow.holds Try.pinned (OpenSpec.ofChange fnExactGetIntWrong)

/-- 'laws.FnExactPutInt': WHATEVER THE INPUT: true; the input reads as it did. -/
def fnExactPutIntSpec : ChangeSpec := { name := "fnExactPutInt", fn := fun _ => fun
  | [d] => { results := [.lit (.bool true)], args := [d] }
  | _ => none }
def fnExactPutIntRow : OpenClaim := { program := "ytnnakemiaalggaa", sum := "e4878766a092ec34029ec2893f8dcfd6d7184b3b87a25e13c97ee24cf306575f", func := "loop.example/g00238/laws.FnExactPutInt", spec := "fnExactPutInt", apart := false }
def FnExactPutIntSaid : Prop := fnExactPutIntRow.holds Try.pinned (OpenSpec.ofChange fnExactPutIntSpec)

/-- ITS FALSE NEIGHBOUR: 'it returns false'. Refute it at one input. -/
def fnExactPutIntWrong : ChangeSpec := { name := "fnExactPutInt", fn := fun _ => fun
  | [d] => { results := [.lit (.bool false)], args := [d] }
  | _ => none }
def FnExactPutIntWrongFalsely : Prop := fnExactPutIntRow.holds Try.pinned (OpenSpec.ofChange fnExactPutIntWrong)

/-- 'laws.FnExactEmitSize': WHATEVER THE INPUT: true; the input reads as it did. -/
def fnExactEmitSizeSpec : ChangeSpec := { name := "fnExactEmitSize", fn := fun _ => fun
  | [d] => { results := [.lit (.bool true)], args := [d] }
  | _ => none }
def fnExactEmitSizeRow : OpenClaim := { program := "ytnnakemiaalggaa", sum := "e4878766a092ec34029ec2893f8dcfd6d7184b3b87a25e13c97ee24cf306575f", func := "loop.example/g00238/laws.FnExactEmitSize", spec := "fnExactEmitSize", apart := false }
def FnExactEmitSizeSaid : Prop := fnExactEmitSizeRow.holds Try.pinned (OpenSpec.ofChange fnExactEmitSizeSpec)

/-- ITS FALSE NEIGHBOUR: 'it returns false'. Refute it at one input. -/
def fnExactEmitSizeWrong : ChangeSpec := { name := "fnExactEmitSize", fn := fun _ => fun
  | [d] => { results := [.lit (.bool false)], args := [d] }
  | _ => none }
def FnExactEmitSizeWrongFalsely : Prop := fnExactEmitSizeRow.holds Try.pinned (OpenSpec.ofChange fnExactEmitSizeWrong)

/-- 'laws.FnExactCrossing': WHATEVER THE INPUT: true; the input reads as it did. -/
def fnExactCrossingSpec : ChangeSpec := { name := "fnExactCrossing", fn := fun _ => fun
  | [] => { results := [.lit (.bool true)], args := [] }
  | _ => none }
def fnExactCrossingRow : OpenClaim := { program := "ytnnakemiaalggaa", sum := "e4878766a092ec34029ec2893f8dcfd6d7184b3b87a25e13c97ee24cf306575f", func := "loop.example/g00238/laws.FnExactCrossing", spec := "fnExactCrossing", apart := false }
def FnExactCrossingSaid : Prop := fnExactCrossingRow.holds Try.pinned (OpenSpec.ofChange fnExactCrossingSpec)

/-- ITS FALSE NEIGHBOUR: 'it returns false'. Refute it at one input. -/
def fnExactCrossingWrong : ChangeSpec := { name := "fnExactCrossing", fn := fun _ => fun
  | [] => { results := [.lit (.bool false)], args := [] }
  | _ => none }
def FnExactCrossingWrongFalsely : Prop := fnExactCrossingRow.holds Try.pinned (OpenSpec.ofChange fnExactCrossingWrong)

/-- 'laws.FnExactMakeBody': WHATEVER THE INPUT: true; the input reads as it did. -/
def fnExactMakeBodySpec : ChangeSpec := { name := "fnExactMakeBody", fn := fun _ => fun
  | [d1, d2] => { results := [.lit (.bool true)], args := [d1, d2] }
  | _ => none }
def fnExactMakeBodyRow : OpenClaim := { program := "ytnnakemiaalggaa", sum := "e4878766a092ec34029ec2893f8dcfd6d7184b3b87a25e13c97ee24cf306575f", func := "loop.example/g00238/laws.FnExactMakeBody", spec := "fnExactMakeBody", apart := false }
def FnExactMakeBodySaid : Prop := fnExactMakeBodyRow.holds Try.pinned (OpenSpec.ofChange fnExactMakeBodySpec)

/-- ITS FALSE NEIGHBOUR: 'it returns false'. Refute it at one input. -/
def fnExactMakeBodyWrong : ChangeSpec := { name := "fnExactMakeBody", fn := fun _ => fun
  | [d1, d2] => { results := [.lit (.bool false)], args := [d1, d2] }
  | _ => none }
def FnExactMakeBodyWrongFalsely : Prop := fnExactMakeBodyRow.holds Try.pinned (OpenSpec.ofChange fnExactMakeBodyWrong)

/-- 'laws.FnExactPassBody': WHATEVER THE INPUT: true; the input reads as it did. -/
def fnExactPassBodySpec : ChangeSpec := { name := "fnExactPassBody", fn := fun _ => fun
  | [d1, d2] => { results := [.lit (.bool true)], args := [d1, d2] }
  | _ => none }
def fnExactPassBodyRow : OpenClaim := { program := "ytnnakemiaalggaa", sum := "e4878766a092ec34029ec2893f8dcfd6d7184b3b87a25e13c97ee24cf306575f", func := "loop.example/g00238/laws.FnExactPassBody", spec := "fnExactPassBody", apart := false }
def FnExactPassBodySaid : Prop := fnExactPassBodyRow.holds Try.pinned (OpenSpec.ofChange fnExactPassBodySpec)

/-- ITS FALSE NEIGHBOUR: 'it returns false'. Refute it at one input. -/
def fnExactPassBodyWrong : ChangeSpec := { name := "fnExactPassBody", fn := fun _ => fun
  | [d1, d2] => { results := [.lit (.bool false)], args := [d1, d2] }
  | _ => none }
def FnExactPassBodyWrongFalsely : Prop := fnExactPassBodyRow.holds Try.pinned (OpenSpec.ofChange fnExactPassBodyWrong)

/-- 'laws.FnExactSumBody': WHATEVER THE INPUT: true; the input reads as it did. -/
def fnExactSumBodySpec : ChangeSpec := { name := "fnExactSumBody", fn := fun _ => fun
  | [d] => { results := [.lit (.bool true)], args := [d] }
  | _ => none }
def fnExactSumBodyRow : OpenClaim := { program := "ytnnakemiaalggaa", sum := "e4878766a092ec34029ec2893f8dcfd6d7184b3b87a25e13c97ee24cf306575f", func := "loop.example/g00238/laws.FnExactSumBody", spec := "fnExactSumBody", apart := false }
def FnExactSumBodySaid : Prop := fnExactSumBodyRow.holds Try.pinned (OpenSpec.ofChange fnExactSumBodySpec)

/-- ITS FALSE NEIGHBOUR: 'it returns false'. Refute it at one input. -/
def fnExactSumBodyWrong : ChangeSpec := { name := "fnExactSumBody", fn := fun _ => fun
  | [d] => { results := [.lit (.bool false)], args := [d] }
  | _ => none }
def FnExactSumBodyWrongFalsely : Prop := fnExactSumBodyRow.holds Try.pinned (OpenSpec.ofChange fnExactSumBodyWrong)

/-- 'laws.FnInts': WHATEVER THE INPUT: true; the input reads as it did. -/
def fnIntsSpec : ChangeSpec := { name := "fnInts", fn := fun _ => fun
  | [d] => { results := [.lit (.bool true)], args := [d] }
  | _ => none }
def fnIntsRow : OpenClaim := { program := "ytnnakemiaalggaa", sum := "e4878766a092ec34029ec2893f8dcfd6d7184b3b87a25e13c97ee24cf306575f", func := "loop.example/g00238/laws.FnInts", spec := "fnInts", apart := false }
def FnIntsSaid : Prop := fnIntsRow.holds Try.pinned (OpenSpec.ofChange fnIntsSpec)

/-- ITS FALSE NEIGHBOUR: 'it returns false'. Refute it at one input. -/
def fnIntsWrong : ChangeSpec := { name := "fnInts", fn := fun _ => fun
  | [d] => { results := [.lit (.bool false)], args := [d] }
  | _ => none }
def FnIntsWrongFalsely : Prop := fnIntsRow.holds Try.pinned (OpenSpec.ofChange fnIntsWrong)

/-- 'laws.FnExactPassing': WHATEVER THE INPUT: true; the input reads as it did. -/
def fnExactPassingSpec : ChangeSpec := { name := "fnExactPassing", fn := fun _ => fun
  | [d1, d2] => { results := [.lit (.bool true)], args := [d1, d2] }
  | _ => none }
def fnExactPassingRow : OpenClaim := { program := "ytnnakemiaalggaa", sum := "e4878766a092ec34029ec2893f8dcfd6d7184b3b87a25e13c97ee24cf306575f", func := "loop.example/g00238/laws.FnExactPassing", spec := "fnExactPassing", apart := false }
def FnExactPassingSaid : Prop := fnExactPassingRow.holds Try.pinned (OpenSpec.ofChange fnExactPassingSpec)

/-- ITS FALSE NEIGHBOUR: 'it returns false'. Refute it at one input. -/
def fnExactPassingWrong : ChangeSpec := { name := "fnExactPassing", fn := fun _ => fun
  | [d1, d2] => { results := [.lit (.bool false)], args := [d1, d2] }
  | _ => none }
def FnExactPassingWrongFalsely : Prop := fnExactPassingRow.holds Try.pinned (OpenSpec.ofChange fnExactPassingWrong)

/-- 'laws.FnExactLitOk': WHATEVER THE INPUT: true; the input reads as it did. -/
def fnExactLitOkSpec : ChangeSpec := { name := "fnExactLitOk", fn := fun _ => fun
  | [d] => { results := [.lit (.bool true)], args := [d] }
  | _ => none }
def fnExactLitOkRow : OpenClaim := { program := "ytnnakemiaalggaa", sum := "e4878766a092ec34029ec2893f8dcfd6d7184b3b87a25e13c97ee24cf306575f", func := "loop.example/g00238/laws.FnExactLitOk", spec := "fnExactLitOk", apart := false }
def FnExactLitOkSaid : Prop := fnExactLitOkRow.holds Try.pinned (OpenSpec.ofChange fnExactLitOkSpec)

/-- ITS FALSE NEIGHBOUR: 'it returns false'. Refute it at one input. -/
def fnExactLitOkWrong : ChangeSpec := { name := "fnExactLitOk", fn := fun _ => fun
  | [d] => { results := [.lit (.bool false)], args := [d] }
  | _ => none }
def FnExactLitOkWrongFalsely : Prop := fnExactLitOkRow.holds Try.pinned (OpenSpec.ofChange fnExactLitOkWrong)

/-- 'laws.FnExactFoldOne': WHATEVER THE INPUT: true; the input reads as it did. -/
def fnExactFoldOneSpec : ChangeSpec := { name := "fnExactFoldOne", fn := fun _ => fun
  | [d1, d2, d3] => { results := [.lit (.bool true)], args := [d1, d2, d3] }
  | _ => none }
def fnExactFoldOneRow : OpenClaim := { program := "ytnnakemiaalggaa", sum := "e4878766a092ec34029ec2893f8dcfd6d7184b3b87a25e13c97ee24cf306575f", func := "loop.example/g00238/laws.FnExactFoldOne", spec := "fnExactFoldOne", apart := false }
def FnExactFoldOneSaid : Prop := fnExactFoldOneRow.holds Try.pinned (OpenSpec.ofChange fnExactFoldOneSpec)

/-- ITS FALSE NEIGHBOUR: 'it returns false'. Refute it at one input. -/
def fnExactFoldOneWrong : ChangeSpec := { name := "fnExactFoldOne", fn := fun _ => fun
  | [d1, d2, d3] => { results := [.lit (.bool false)], args := [d1, d2, d3] }
  | _ => none }
def FnExactFoldOneWrongFalsely : Prop := fnExactFoldOneRow.holds Try.pinned (OpenSpec.ofChange fnExactFoldOneWrong)

/- THE SECOND FORM. 'bulk': how many values and letters a reading holds, each counted each time it is reached (what is shared counts as often as it is met; a slice's spare places count too). A statement '..UptoSaid' is the law's where the arguments, and the package variables that the reading takes, are together of bulk at most 1048576: NARROWER than '..Said'. Prove '..Said' where nothing that the law and all that it calls make is longer than what came in: it says more and counts as full. Else prove '..UptoSaid'. A law counts once. -/
mutual
def uptoBulk {H : Type} : DataW H → Nat
  | .lit (.string bytes) => bytes.length + 1
  | .lit _ => 1
  | .nil => 1
  | .ptr d => uptoBulk d + 1
  | .slice elems spare => uptoBulkAll elems + uptoBulkAll spare + 1
  | .agg parts => uptoBulkAll parts + 1
  | .iface _ d => uptoBulk d + 1
  | .map entries => uptoBulkEntries entries + 1
  | .held _ => 1
def uptoBulkAll {H : Type} : List (DataW H) → Nat
  | [] => 0
  | d :: r => uptoBulk d + uptoBulkAll r
def uptoBulkEntries {H : Type} : List (Lit × DataW H) → Nat
  | [] => 0
  | x :: r => uptoBulkEntry x + uptoBulkEntries r
def uptoBulkEntry {H : Type} : Lit × DataW H → Nat
  | (.string bytes, d) => bytes.length + uptoBulk d + 1
  | (_, d) => uptoBulk d + 1
 end
def uptoSmall : (H : Type) → List (DataW H) → Bool := fun _ ds => decide (uptoBulkAll ds ≤ 1048576)
def OpenSpec.upto (s : _root_.Go.ChangeSpec) : _root_.Go.OpenSpec := { _root_.Go.OpenSpec.ofChange s with cond := some uptoSmall }

/-- 'laws.FnExactTotal', WHERE WHAT IT READS IS OF BULK AT MOST 1048576: true; the input reads as it did. -/
def fnExactTotalUptoRow : OpenClaim := { program := "ytnnakemiaalggaa", sum := "e4878766a092ec34029ec2893f8dcfd6d7184b3b87a25e13c97ee24cf306575f", func := "loop.example/g00238/laws.FnExactTotal", spec := "fnExactTotal", apart := false, narrowed := true }
def FnExactTotalUptoSaid : Prop := fnExactTotalUptoRow.holds Try.pinned (OpenSpec.upto fnExactTotalSpec)

/-- 'laws.FnExactGetInt', WHERE WHAT IT READS IS OF BULK AT MOST 1048576: true; the input reads as it did. -/
def fnExactGetIntUptoRow : OpenClaim := { program := "ytnnakemiaalggaa", sum := "e4878766a092ec34029ec2893f8dcfd6d7184b3b87a25e13c97ee24cf306575f", func := "loop.example/g00238/laws.FnExactGetInt", spec := "fnExactGetInt", apart := false, narrowed := true }
def FnExactGetIntUptoSaid : Prop := fnExactGetIntUptoRow.holds Try.pinned (OpenSpec.upto fnExactGetIntSpec)

/-- 'laws.FnExactPutInt', WHERE WHAT IT READS IS OF BULK AT MOST 1048576: true; the input reads as it did. -/
def fnExactPutIntUptoRow : OpenClaim := { program := "ytnnakemiaalggaa", sum := "e4878766a092ec34029ec2893f8dcfd6d7184b3b87a25e13c97ee24cf306575f", func := "loop.example/g00238/laws.FnExactPutInt", spec := "fnExactPutInt", apart := false, narrowed := true }
def FnExactPutIntUptoSaid : Prop := fnExactPutIntUptoRow.holds Try.pinned (OpenSpec.upto fnExactPutIntSpec)

/-- 'laws.FnExactEmitSize', WHERE WHAT IT READS IS OF BULK AT MOST 1048576: true; the input reads as it did. -/
def fnExactEmitSizeUptoRow : OpenClaim := { program := "ytnnakemiaalggaa", sum := "e4878766a092ec34029ec2893f8dcfd6d7184b3b87a25e13c97ee24cf306575f", func := "loop.example/g00238/laws.FnExactEmitSize", spec := "fnExactEmitSize", apart := false, narrowed := true }
def FnExactEmitSizeUptoSaid : Prop := fnExactEmitSizeUptoRow.holds Try.pinned (OpenSpec.upto fnExactEmitSizeSpec)

/-- 'laws.FnExactCrossing', WHERE WHAT IT READS IS OF BULK AT MOST 1048576: true; the input reads as it did. -/
def fnExactCrossingUptoRow : OpenClaim := { program := "ytnnakemiaalggaa", sum := "e4878766a092ec34029ec2893f8dcfd6d7184b3b87a25e13c97ee24cf306575f", func := "loop.example/g00238/laws.FnExactCrossing", spec := "fnExactCrossing", apart := false, narrowed := true }
def FnExactCrossingUptoSaid : Prop := fnExactCrossingUptoRow.holds Try.pinned (OpenSpec.upto fnExactCrossingSpec)

/-- 'laws.FnExactMakeBody', WHERE WHAT IT READS IS OF BULK AT MOST 1048576: true; the input reads as it did. -/
def fnExactMakeBodyUptoRow : OpenClaim := { program := "ytnnakemiaalggaa", sum := "e4878766a092ec34029ec2893f8dcfd6d7184b3b87a25e13c97ee24cf306575f", func := "loop.example/g00238/laws.FnExactMakeBody", spec := "fnExactMakeBody", apart := false, narrowed := true }
def FnExactMakeBodyUptoSaid : Prop := fnExactMakeBodyUptoRow.holds Try.pinned (OpenSpec.upto fnExactMakeBodySpec)

/-- 'laws.FnExactPassBody', WHERE WHAT IT READS IS OF BULK AT MOST 1048576: true; the input reads as it did. -/
def fnExactPassBodyUptoRow : OpenClaim := { program := "ytnnakemiaalggaa", sum := "e4878766a092ec34029ec2893f8dcfd6d7184b3b87a25e13c97ee24cf306575f", func := "loop.example/g00238/laws.FnExactPassBody", spec := "fnExactPassBody", apart := false, narrowed := true }
def FnExactPassBodyUptoSaid : Prop := fnExactPassBodyUptoRow.holds Try.pinned (OpenSpec.upto fnExactPassBodySpec)

/-- 'laws.FnExactSumBody', WHERE WHAT IT READS IS OF BULK AT MOST 1048576: true; the input reads as it did. -/
def fnExactSumBodyUptoRow : OpenClaim := { program := "ytnnakemiaalggaa", sum := "e4878766a092ec34029ec2893f8dcfd6d7184b3b87a25e13c97ee24cf306575f", func := "loop.example/g00238/laws.FnExactSumBody", spec := "fnExactSumBody", apart := false, narrowed := true }
def FnExactSumBodyUptoSaid : Prop := fnExactSumBodyUptoRow.holds Try.pinned (OpenSpec.upto fnExactSumBodySpec)

/-- 'laws.FnInts', WHERE WHAT IT READS IS OF BULK AT MOST 1048576: true; the input reads as it did. -/
def fnIntsUptoRow : OpenClaim := { program := "ytnnakemiaalggaa", sum := "e4878766a092ec34029ec2893f8dcfd6d7184b3b87a25e13c97ee24cf306575f", func := "loop.example/g00238/laws.FnInts", spec := "fnInts", apart := false, narrowed := true }
def FnIntsUptoSaid : Prop := fnIntsUptoRow.holds Try.pinned (OpenSpec.upto fnIntsSpec)

/-- 'laws.FnExactPassing', WHERE WHAT IT READS IS OF BULK AT MOST 1048576: true; the input reads as it did. -/
def fnExactPassingUptoRow : OpenClaim := { program := "ytnnakemiaalggaa", sum := "e4878766a092ec34029ec2893f8dcfd6d7184b3b87a25e13c97ee24cf306575f", func := "loop.example/g00238/laws.FnExactPassing", spec := "fnExactPassing", apart := false, narrowed := true }
def FnExactPassingUptoSaid : Prop := fnExactPassingUptoRow.holds Try.pinned (OpenSpec.upto fnExactPassingSpec)

/-- 'laws.FnExactLitOk', WHERE WHAT IT READS IS OF BULK AT MOST 1048576: true; the input reads as it did. -/
def fnExactLitOkUptoRow : OpenClaim := { program := "ytnnakemiaalggaa", sum := "e4878766a092ec34029ec2893f8dcfd6d7184b3b87a25e13c97ee24cf306575f", func := "loop.example/g00238/laws.FnExactLitOk", spec := "fnExactLitOk", apart := false, narrowed := true }
def FnExactLitOkUptoSaid : Prop := fnExactLitOkUptoRow.holds Try.pinned (OpenSpec.upto fnExactLitOkSpec)

/-- 'laws.FnExactFoldOne', WHERE WHAT IT READS IS OF BULK AT MOST 1048576: true; the input reads as it did. -/
def fnExactFoldOneUptoRow : OpenClaim := { program := "ytnnakemiaalggaa", sum := "e4878766a092ec34029ec2893f8dcfd6d7184b3b87a25e13c97ee24cf306575f", func := "loop.example/g00238/laws.FnExactFoldOne", spec := "fnExactFoldOne", apart := false, narrowed := true }
def FnExactFoldOneUptoSaid : Prop := fnExactFoldOneUptoRow.holds Try.pinned (OpenSpec.upto fnExactFoldOneSpec)

end Rows
end Go.Proofs.Ytnnakemiaalggaa
