/-
  No cell of these rows narrows 'for every input' (looked for: loops, veiled, ifaces, maps, wideKeys, modest, calm, conditions, laid).
  DERIVED. THE GIVEN ROWS OF THIS SEAT. 9 by the template 'for every input the law returns true; each argument reads behind the call as it read before'; 0 by the template 'total and deterministic' (their statements: YtocimkpafakiaaaTotals.lean).
  GIVEN WITH THE SEED: the statements are not yours to turn. If you find one false, say at which input.
  Laid BY PROGRAM, IN A SANDBOX (cutbox-rows.mjs): the forced cells as the released guide's own fill.sh prints them over the translation 580f54bfa4b8a727… (all of the seat's roots in one cut). By AI agents, Wed Nov 11 2026. No macro, syntax, notation, axiom, sorry.
-/
import Derived.Test.YtocimkpafakiaaaChecked
import GoSem.Claim
import GoSem.ClaimJoined
import GoSem.ClaimMapViews
import Derived.JoinedTies
import Derived.KernelRfl
namespace Go.Proofs.Ytocimkpafakiaaa
/- THE CELL 'sum', in the pinned program and in every row, IS THE sha256 OF THE DUMP (.gsa) THAT YtocimkpafakiaaaProg.lean LOADS. Nothing in Lean hashes anything: it is a label: what it is worth is what the hold of that sum in a sandbox is worth. -/
noncomputable def Try.pinned : Pinned := { name := "ytocimkpafakiaaa", sum := "580f54bfa4b8a727e8f3ada7f6daadc1cde76e5245adc598bb6f1f4968931243", checked := Try.checked }
namespace Rows
def none {H : Type} : Left H := { results := [], args := [] }

/-- 'laws.FnExactPackBody': WHATEVER THE INPUT: true; the input reads as it did. -/
def fnExactPackBodySpec : ChangeSpec := { name := "fnExactPackBody", fn := fun _ => fun
  | [d] => { results := [.lit (.bool true)], args := [d] }
  | _ => none }
def fnExactPackBodyRow : OpenClaim := { program := "ytocimkpafakiaaa", sum := "580f54bfa4b8a727e8f3ada7f6daadc1cde76e5245adc598bb6f1f4968931243", func := "loop.example/g00238/laws.FnExactPackBody", spec := "fnExactPackBody", recurses := true, apart := false }
def FnExactPackBodySaid : Prop := fnExactPackBodyRow.holds Try.pinned (OpenSpec.ofChange fnExactPackBodySpec)

/-- ITS FALSE NEIGHBOUR: 'it returns false'. Refute it at one input. -/
def fnExactPackBodyWrong : ChangeSpec := { name := "fnExactPackBody", fn := fun _ => fun
  | [d] => { results := [.lit (.bool false)], args := [d] }
  | _ => none }
def FnExactPackBodyWrongFalsely : Prop := fnExactPackBodyRow.holds Try.pinned (OpenSpec.ofChange fnExactPackBodyWrong)

/-- 'laws.FnFlows': WHATEVER THE INPUT: true; the input reads as it did. -/
def fnFlowsSpec : ChangeSpec := { name := "fnFlows", fn := fun _ => fun
  | [d] => { results := [.lit (.bool true)], args := [d] }
  | _ => none }
def fnFlowsRow : OpenClaim := { program := "ytocimkpafakiaaa", sum := "580f54bfa4b8a727e8f3ada7f6daadc1cde76e5245adc598bb6f1f4968931243", func := "loop.example/g00238/laws.FnFlows", spec := "fnFlows", recurses := true, apart := false }
def FnFlowsSaid : Prop := fnFlowsRow.holds Try.pinned (OpenSpec.ofChange fnFlowsSpec)

/-- ITS FALSE NEIGHBOUR: 'it returns false'. Refute it at one input. -/
def fnFlowsWrong : ChangeSpec := { name := "fnFlows", fn := fun _ => fun
  | [d] => { results := [.lit (.bool false)], args := [d] }
  | _ => none }
def FnFlowsWrongFalsely : Prop := fnFlowsRow.holds Try.pinned (OpenSpec.ofChange fnFlowsWrong)

/-- 'laws.FnExactLiveAt': WHATEVER THE INPUT: true; the input reads as it did. -/
def fnExactLiveAtSpec : ChangeSpec := { name := "fnExactLiveAt", fn := fun _ => fun
  | [d] => { results := [.lit (.bool true)], args := [d] }
  | _ => none }
def fnExactLiveAtRow : OpenClaim := { program := "ytocimkpafakiaaa", sum := "580f54bfa4b8a727e8f3ada7f6daadc1cde76e5245adc598bb6f1f4968931243", func := "loop.example/g00238/laws.FnExactLiveAt", spec := "fnExactLiveAt", recurses := true, apart := false }
def FnExactLiveAtSaid : Prop := fnExactLiveAtRow.holds Try.pinned (OpenSpec.ofChange fnExactLiveAtSpec)

/-- ITS FALSE NEIGHBOUR: 'it returns false'. Refute it at one input. -/
def fnExactLiveAtWrong : ChangeSpec := { name := "fnExactLiveAt", fn := fun _ => fun
  | [d] => { results := [.lit (.bool false)], args := [d] }
  | _ => none }
def FnExactLiveAtWrongFalsely : Prop := fnExactLiveAtRow.holds Try.pinned (OpenSpec.ofChange fnExactLiveAtWrong)

/-- 'laws.FnExactDeadAt': WHATEVER THE INPUT: true; the input reads as it did. -/
def fnExactDeadAtSpec : ChangeSpec := { name := "fnExactDeadAt", fn := fun _ => fun
  | [d] => { results := [.lit (.bool true)], args := [d] }
  | _ => none }
def fnExactDeadAtRow : OpenClaim := { program := "ytocimkpafakiaaa", sum := "580f54bfa4b8a727e8f3ada7f6daadc1cde76e5245adc598bb6f1f4968931243", func := "loop.example/g00238/laws.FnExactDeadAt", spec := "fnExactDeadAt", recurses := true, apart := false }
def FnExactDeadAtSaid : Prop := fnExactDeadAtRow.holds Try.pinned (OpenSpec.ofChange fnExactDeadAtSpec)

/-- ITS FALSE NEIGHBOUR: 'it returns false'. Refute it at one input. -/
def fnExactDeadAtWrong : ChangeSpec := { name := "fnExactDeadAt", fn := fun _ => fun
  | [d] => { results := [.lit (.bool false)], args := [d] }
  | _ => none }
def FnExactDeadAtWrongFalsely : Prop := fnExactDeadAtRow.holds Try.pinned (OpenSpec.ofChange fnExactDeadAtWrong)

/-- 'laws.FnExactKnownAt': WHATEVER THE INPUT: true; the input reads as it did. -/
def fnExactKnownAtSpec : ChangeSpec := { name := "fnExactKnownAt", fn := fun _ => fun
  | [d] => { results := [.lit (.bool true)], args := [d] }
  | _ => none }
def fnExactKnownAtRow : OpenClaim := { program := "ytocimkpafakiaaa", sum := "580f54bfa4b8a727e8f3ada7f6daadc1cde76e5245adc598bb6f1f4968931243", func := "loop.example/g00238/laws.FnExactKnownAt", spec := "fnExactKnownAt", recurses := true, apart := false }
def FnExactKnownAtSaid : Prop := fnExactKnownAtRow.holds Try.pinned (OpenSpec.ofChange fnExactKnownAtSpec)

/-- ITS FALSE NEIGHBOUR: 'it returns false'. Refute it at one input. -/
def fnExactKnownAtWrong : ChangeSpec := { name := "fnExactKnownAt", fn := fun _ => fun
  | [d] => { results := [.lit (.bool false)], args := [d] }
  | _ => none }
def FnExactKnownAtWrongFalsely : Prop := fnExactKnownAtRow.holds Try.pinned (OpenSpec.ofChange fnExactKnownAtWrong)

/-- 'laws.FnExactTrimBody': WHATEVER THE INPUT: true; the input reads as it did. -/
def fnExactTrimBodySpec : ChangeSpec := { name := "fnExactTrimBody", fn := fun _ => fun
  | [d] => { results := [.lit (.bool true)], args := [d] }
  | _ => none }
def fnExactTrimBodyRow : OpenClaim := { program := "ytocimkpafakiaaa", sum := "580f54bfa4b8a727e8f3ada7f6daadc1cde76e5245adc598bb6f1f4968931243", func := "loop.example/g00238/laws.FnExactTrimBody", spec := "fnExactTrimBody", recurses := true, apart := false }
def FnExactTrimBodySaid : Prop := fnExactTrimBodyRow.holds Try.pinned (OpenSpec.ofChange fnExactTrimBodySpec)

/-- ITS FALSE NEIGHBOUR: 'it returns false'. Refute it at one input. -/
def fnExactTrimBodyWrong : ChangeSpec := { name := "fnExactTrimBody", fn := fun _ => fun
  | [d] => { results := [.lit (.bool false)], args := [d] }
  | _ => none }
def FnExactTrimBodyWrongFalsely : Prop := fnExactTrimBodyRow.holds Try.pinned (OpenSpec.ofChange fnExactTrimBodyWrong)

/-- 'laws.FnExactFoldBody': WHATEVER THE INPUT: true; the input reads as it did. -/
def fnExactFoldBodySpec : ChangeSpec := { name := "fnExactFoldBody", fn := fun _ => fun
  | [d] => { results := [.lit (.bool true)], args := [d] }
  | _ => none }
def fnExactFoldBodyRow : OpenClaim := { program := "ytocimkpafakiaaa", sum := "580f54bfa4b8a727e8f3ada7f6daadc1cde76e5245adc598bb6f1f4968931243", func := "loop.example/g00238/laws.FnExactFoldBody", spec := "fnExactFoldBody", recurses := true, apart := false }
def FnExactFoldBodySaid : Prop := fnExactFoldBodyRow.holds Try.pinned (OpenSpec.ofChange fnExactFoldBodySpec)

/-- ITS FALSE NEIGHBOUR: 'it returns false'. Refute it at one input. -/
def fnExactFoldBodyWrong : ChangeSpec := { name := "fnExactFoldBody", fn := fun _ => fun
  | [d] => { results := [.lit (.bool false)], args := [d] }
  | _ => none }
def FnExactFoldBodyWrongFalsely : Prop := fnExactFoldBodyRow.holds Try.pinned (OpenSpec.ofChange fnExactFoldBodyWrong)

/-- 'laws.FnExactPackProg': WHATEVER THE INPUT: true; the input reads as it did. -/
def fnExactPackProgSpec : ChangeSpec := { name := "fnExactPackProg", fn := fun _ => fun
  | [d] => { results := [.lit (.bool true)], args := [d] }
  | _ => none }
def fnExactPackProgRow : OpenClaim := { program := "ytocimkpafakiaaa", sum := "580f54bfa4b8a727e8f3ada7f6daadc1cde76e5245adc598bb6f1f4968931243", func := "loop.example/g00238/laws.FnExactPackProg", spec := "fnExactPackProg", unfollowed := true, recurses := true, apart := false }
def FnExactPackProgSaid : Prop := fnExactPackProgRow.holds Try.pinned (OpenSpec.ofChange fnExactPackProgSpec)

/-- ITS FALSE NEIGHBOUR: 'it returns false'. Refute it at one input. -/
def fnExactPackProgWrong : ChangeSpec := { name := "fnExactPackProg", fn := fun _ => fun
  | [d] => { results := [.lit (.bool false)], args := [d] }
  | _ => none }
def FnExactPackProgWrongFalsely : Prop := fnExactPackProgRow.holds Try.pinned (OpenSpec.ofChange fnExactPackProgWrong)

/-- 'laws.FnExactTrimProg': WHATEVER THE INPUT: true; the input reads as it did. -/
def fnExactTrimProgSpec : ChangeSpec := { name := "fnExactTrimProg", fn := fun _ => fun
  | [d] => { results := [.lit (.bool true)], args := [d] }
  | _ => none }
def fnExactTrimProgRow : OpenClaim := { program := "ytocimkpafakiaaa", sum := "580f54bfa4b8a727e8f3ada7f6daadc1cde76e5245adc598bb6f1f4968931243", func := "loop.example/g00238/laws.FnExactTrimProg", spec := "fnExactTrimProg", unfollowed := true, recurses := true, apart := false }
def FnExactTrimProgSaid : Prop := fnExactTrimProgRow.holds Try.pinned (OpenSpec.ofChange fnExactTrimProgSpec)

/-- ITS FALSE NEIGHBOUR: 'it returns false'. Refute it at one input. -/
def fnExactTrimProgWrong : ChangeSpec := { name := "fnExactTrimProg", fn := fun _ => fun
  | [d] => { results := [.lit (.bool false)], args := [d] }
  | _ => none }
def FnExactTrimProgWrongFalsely : Prop := fnExactTrimProgRow.holds Try.pinned (OpenSpec.ofChange fnExactTrimProgWrong)

/- THE SECOND FORM. 'bulk': how many values and letters a reading holds, each counted each time it is reached (what is shared counts as often as it is met; a slice's spare places count too). A statement '..UptoSaid' is the law's where the arguments, and the package variables that the reading takes, are together of bulk at most 1048576: NARROWER than '..Said'. Prove '..Said' where nothing that the law and all that it calls make is longer than what came in: it says more and counts as full. Else prove '..UptoSaid'. A law counts once. -/
mutual
def uptoBulk {H : Type} : DataW H → Nat
  | .lit (.string bytes) => bytes.length + 1
  | .lit _ => 1
  | .nil => 1
  | .ptr d => uptoBulk d + 1
  | .slice elems spare => uptoBulkAll elems + uptoBulkAll spare + 1
  | .agg parts => uptoBulkAll parts + 1
  | .iface _ d => uptoBulk d + 1
  | .map entries => uptoBulkEntries entries + 1
  | .held _ => 1
def uptoBulkAll {H : Type} : List (DataW H) → Nat
  | [] => 0
  | d :: r => uptoBulk d + uptoBulkAll r
def uptoBulkEntries {H : Type} : List (Lit × DataW H) → Nat
  | [] => 0
  | x :: r => uptoBulkEntry x + uptoBulkEntries r
def uptoBulkEntry {H : Type} : Lit × DataW H → Nat
  | (.string bytes, d) => bytes.length + uptoBulk d + 1
  | (_, d) => uptoBulk d + 1
 end
def uptoSmall : (H : Type) → List (DataW H) → Bool := fun _ ds => decide (uptoBulkAll ds ≤ 1048576)
def OpenSpec.upto (s : _root_.Go.ChangeSpec) : _root_.Go.OpenSpec := { _root_.Go.OpenSpec.ofChange s with cond := some uptoSmall }

/-- 'laws.FnExactPackBody', WHERE WHAT IT READS IS OF BULK AT MOST 1048576: true; the input reads as it did. -/
def fnExactPackBodyUptoRow : OpenClaim := { program := "ytocimkpafakiaaa", sum := "580f54bfa4b8a727e8f3ada7f6daadc1cde76e5245adc598bb6f1f4968931243", func := "loop.example/g00238/laws.FnExactPackBody", spec := "fnExactPackBody", recurses := true, apart := false, narrowed := true }
def FnExactPackBodyUptoSaid : Prop := fnExactPackBodyUptoRow.holds Try.pinned (OpenSpec.upto fnExactPackBodySpec)

/-- 'laws.FnFlows', WHERE WHAT IT READS IS OF BULK AT MOST 1048576: true; the input reads as it did. -/
def fnFlowsUptoRow : OpenClaim := { program := "ytocimkpafakiaaa", sum := "580f54bfa4b8a727e8f3ada7f6daadc1cde76e5245adc598bb6f1f4968931243", func := "loop.example/g00238/laws.FnFlows", spec := "fnFlows", recurses := true, apart := false, narrowed := true }
def FnFlowsUptoSaid : Prop := fnFlowsUptoRow.holds Try.pinned (OpenSpec.upto fnFlowsSpec)

/-- 'laws.FnExactLiveAt', WHERE WHAT IT READS IS OF BULK AT MOST 1048576: true; the input reads as it did. -/
def fnExactLiveAtUptoRow : OpenClaim := { program := "ytocimkpafakiaaa", sum := "580f54bfa4b8a727e8f3ada7f6daadc1cde76e5245adc598bb6f1f4968931243", func := "loop.example/g00238/laws.FnExactLiveAt", spec := "fnExactLiveAt", recurses := true, apart := false, narrowed := true }
def FnExactLiveAtUptoSaid : Prop := fnExactLiveAtUptoRow.holds Try.pinned (OpenSpec.upto fnExactLiveAtSpec)

/-- 'laws.FnExactDeadAt', WHERE WHAT IT READS IS OF BULK AT MOST 1048576: true; the input reads as it did. -/
def fnExactDeadAtUptoRow : OpenClaim := { program := "ytocimkpafakiaaa", sum := "580f54bfa4b8a727e8f3ada7f6daadc1cde76e5245adc598bb6f1f4968931243", func := "loop.example/g00238/laws.FnExactDeadAt", spec := "fnExactDeadAt", recurses := true, apart := false, narrowed := true }
def FnExactDeadAtUptoSaid : Prop := fnExactDeadAtUptoRow.holds Try.pinned (OpenSpec.upto fnExactDeadAtSpec)

/-- 'laws.FnExactKnownAt', WHERE WHAT IT READS IS OF BULK AT MOST 1048576: true; the input reads as it did. -/
def fnExactKnownAtUptoRow : OpenClaim := { program := "ytocimkpafakiaaa", sum := "580f54bfa4b8a727e8f3ada7f6daadc1cde76e5245adc598bb6f1f4968931243", func := "loop.example/g00238/laws.FnExactKnownAt", spec := "fnExactKnownAt", recurses := true, apart := false, narrowed := true }
def FnExactKnownAtUptoSaid : Prop := fnExactKnownAtUptoRow.holds Try.pinned (OpenSpec.upto fnExactKnownAtSpec)

/-- 'laws.FnExactTrimBody', WHERE WHAT IT READS IS OF BULK AT MOST 1048576: true; the input reads as it did. -/
def fnExactTrimBodyUptoRow : OpenClaim := { program := "ytocimkpafakiaaa", sum := "580f54bfa4b8a727e8f3ada7f6daadc1cde76e5245adc598bb6f1f4968931243", func := "loop.example/g00238/laws.FnExactTrimBody", spec := "fnExactTrimBody", recurses := true, apart := false, narrowed := true }
def FnExactTrimBodyUptoSaid : Prop := fnExactTrimBodyUptoRow.holds Try.pinned (OpenSpec.upto fnExactTrimBodySpec)

/-- 'laws.FnExactFoldBody', WHERE WHAT IT READS IS OF BULK AT MOST 1048576: true; the input reads as it did. -/
def fnExactFoldBodyUptoRow : OpenClaim := { program := "ytocimkpafakiaaa", sum := "580f54bfa4b8a727e8f3ada7f6daadc1cde76e5245adc598bb6f1f4968931243", func := "loop.example/g00238/laws.FnExactFoldBody", spec := "fnExactFoldBody", recurses := true, apart := false, narrowed := true }
def FnExactFoldBodyUptoSaid : Prop := fnExactFoldBodyUptoRow.holds Try.pinned (OpenSpec.upto fnExactFoldBodySpec)

/-- 'laws.FnExactPackProg', WHERE WHAT IT READS IS OF BULK AT MOST 1048576: true; the input reads as it did. -/
def fnExactPackProgUptoRow : OpenClaim := { program := "ytocimkpafakiaaa", sum := "580f54bfa4b8a727e8f3ada7f6daadc1cde76e5245adc598bb6f1f4968931243", func := "loop.example/g00238/laws.FnExactPackProg", spec := "fnExactPackProg", unfollowed := true, recurses := true, apart := false, narrowed := true }
def FnExactPackProgUptoSaid : Prop := fnExactPackProgUptoRow.holds Try.pinned (OpenSpec.upto fnExactPackProgSpec)

/-- 'laws.FnExactTrimProg', WHERE WHAT IT READS IS OF BULK AT MOST 1048576: true; the input reads as it did. -/
def fnExactTrimProgUptoRow : OpenClaim := { program := "ytocimkpafakiaaa", sum := "580f54bfa4b8a727e8f3ada7f6daadc1cde76e5245adc598bb6f1f4968931243", func := "loop.example/g00238/laws.FnExactTrimProg", spec := "fnExactTrimProg", unfollowed := true, recurses := true, apart := false, narrowed := true }
def FnExactTrimProgUptoSaid : Prop := fnExactTrimProgUptoRow.holds Try.pinned (OpenSpec.upto fnExactTrimProgSpec)

end Rows
end Go.Proofs.Ytocimkpafakiaaa
