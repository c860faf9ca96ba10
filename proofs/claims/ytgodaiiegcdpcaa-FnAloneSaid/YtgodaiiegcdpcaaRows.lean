/-
  No cell of these rows narrows 'for every input' (looked for: loops, veiled, ifaces, maps, wideKeys, modest, calm, conditions, laid).
  DERIVED. THE GIVEN ROWS OF THIS SEAT. 7 by the template 'for every input the law returns true; each argument reads behind the call as it read before'; 0 by the template 'total and deterministic' (their statements: YtgodaiiegcdpcaaTotals.lean).
  GIVEN WITH THE SEED: the statements are not yours to turn. If you find one false, say at which input.
  Laid BY PROGRAM, IN A SANDBOX (cutbox-rows.mjs): the forced cells as the released guide's own fill.sh prints them over the translation 8e6bf46150b192b7… (all of the seat's roots in one cut). By AI agents, Wed Nov 11 2026. No macro, syntax, notation, axiom, sorry.
-/
import Derived.Test.YtgodaiiegcdpcaaChecked
import GoSem.Claim
import GoSem.ClaimJoined
import GoSem.ClaimMapViews
import Derived.JoinedTies
import Derived.KernelRfl
namespace Go.Proofs.Ytgodaiiegcdpcaa
/- THE CELL 'sum', in the pinned program and in every row, IS THE sha256 OF THE DUMP (.gsa) THAT YtgodaiiegcdpcaaProg.lean LOADS. Nothing in Lean hashes anything: it is a label: what it is worth is what the hold of that sum in a sandbox is worth. -/
noncomputable def Try.pinned : Pinned := { name := "ytgodaiiegcdpcaa", sum := "8e6bf46150b192b76d559087b687152d00ffce0353dbc6d26cfa0b3509df2fbc", checked := Try.checked }
namespace Rows
def none {H : Type} : Left H := { results := [], args := [] }

/-- 'laws.FnLock': WHATEVER THE INPUT: true; the input reads as it did. -/
def fnLockSpec : ChangeSpec := { name := "fnLock", fn := fun _ => fun
  | [d] => { results := [.lit (.bool true)], args := [d] }
  | _ => none }
def fnLockRow : OpenClaim := { program := "ytgodaiiegcdpcaa", sum := "8e6bf46150b192b76d559087b687152d00ffce0353dbc6d26cfa0b3509df2fbc", func := "loop.example/g00238/laws.FnLock", spec := "fnLock", apart := false }
def FnLockSaid : Prop := fnLockRow.holds Try.pinned (OpenSpec.ofChange fnLockSpec)

/-- ITS FALSE NEIGHBOUR: 'it returns false'. Refute it at one input. -/
def fnLockWrong : ChangeSpec := { name := "fnLock", fn := fun _ => fun
  | [d] => { results := [.lit (.bool false)], args := [d] }
  | _ => none }
def FnLockWrongFalsely : Prop := fnLockRow.holds Try.pinned (OpenSpec.ofChange fnLockWrong)

/-- 'laws.FnPipesWeak': WHATEVER THE INPUT: true; the input reads as it did. -/
def fnPipesWeakSpec : ChangeSpec := { name := "fnPipesWeak", fn := fun _ => fun
  | [d] => { results := [.lit (.bool true)], args := [d] }
  | _ => none }
def fnPipesWeakRow : OpenClaim := { program := "ytgodaiiegcdpcaa", sum := "8e6bf46150b192b76d559087b687152d00ffce0353dbc6d26cfa0b3509df2fbc", func := "loop.example/g00238/laws.FnPipesWeak", spec := "fnPipesWeak", apart := false }
def FnPipesWeakSaid : Prop := fnPipesWeakRow.holds Try.pinned (OpenSpec.ofChange fnPipesWeakSpec)

/-- ITS FALSE NEIGHBOUR: 'it returns false'. Refute it at one input. -/
def fnPipesWeakWrong : ChangeSpec := { name := "fnPipesWeak", fn := fun _ => fun
  | [d] => { results := [.lit (.bool false)], args := [d] }
  | _ => none }
def FnPipesWeakWrongFalsely : Prop := fnPipesWeakRow.holds Try.pinned (OpenSpec.ofChange fnPipesWeakWrong)

/-- 'laws.FnMachine': WHATEVER THE INPUT: true; the input reads as it did. -/
def fnMachineSpec : ChangeSpec := { name := "fnMachine", fn := fun _ => fun
  | [d] => { results := [.lit (.bool true)], args := [d] }
  | _ => none }
def fnMachineRow : OpenClaim := { program := "ytgodaiiegcdpcaa", sum := "8e6bf46150b192b76d559087b687152d00ffce0353dbc6d26cfa0b3509df2fbc", func := "loop.example/g00238/laws.FnMachine", spec := "fnMachine", apart := false }
def FnMachineSaid : Prop := fnMachineRow.holds Try.pinned (OpenSpec.ofChange fnMachineSpec)

/-- ITS FALSE NEIGHBOUR: 'it returns false'. Refute it at one input. -/
def fnMachineWrong : ChangeSpec := { name := "fnMachine", fn := fun _ => fun
  | [d] => { results := [.lit (.bool false)], args := [d] }
  | _ => none }
def FnMachineWrongFalsely : Prop := fnMachineRow.holds Try.pinned (OpenSpec.ofChange fnMachineWrong)

/-- 'laws.FnExactBetween': WHATEVER THE INPUT: true; the input reads as it did. -/
def fnExactBetweenSpec : ChangeSpec := { name := "fnExactBetween", fn := fun _ => fun
  | [d1, d2, d3] => { results := [.lit (.bool true)], args := [d1, d2, d3] }
  | _ => none }
def fnExactBetweenRow : OpenClaim := { program := "ytgodaiiegcdpcaa", sum := "8e6bf46150b192b76d559087b687152d00ffce0353dbc6d26cfa0b3509df2fbc", func := "loop.example/g00238/laws.FnExactBetween", spec := "fnExactBetween", apart := false }
def FnExactBetweenSaid : Prop := fnExactBetweenRow.holds Try.pinned (OpenSpec.ofChange fnExactBetweenSpec)

/-- ITS FALSE NEIGHBOUR: 'it returns false'. Refute it at one input. -/
def fnExactBetweenWrong : ChangeSpec := { name := "fnExactBetween", fn := fun _ => fun
  | [d1, d2, d3] => { results := [.lit (.bool false)], args := [d1, d2, d3] }
  | _ => none }
def FnExactBetweenWrongFalsely : Prop := fnExactBetweenRow.holds Try.pinned (OpenSpec.ofChange fnExactBetweenWrong)

/-- 'laws.FnAlone': WHATEVER THE INPUT: true; the input reads as it did. -/
def fnAloneSpec : ChangeSpec := { name := "fnAlone", fn := fun _ => fun
  | [d] => { results := [.lit (.bool true)], args := [d] }
  | _ => none }
def fnAloneRow : OpenClaim := { program := "ytgodaiiegcdpcaa", sum := "8e6bf46150b192b76d559087b687152d00ffce0353dbc6d26cfa0b3509df2fbc", func := "loop.example/g00238/laws.FnAlone", spec := "fnAlone", apart := false }
def FnAloneSaid : Prop := fnAloneRow.holds Try.pinned (OpenSpec.ofChange fnAloneSpec)

/-- ITS FALSE NEIGHBOUR: 'it returns false'. Refute it at one input. -/
def fnAloneWrong : ChangeSpec := { name := "fnAlone", fn := fun _ => fun
  | [d] => { results := [.lit (.bool false)], args := [d] }
  | _ => none }
def FnAloneWrongFalsely : Prop := fnAloneRow.holds Try.pinned (OpenSpec.ofChange fnAloneWrong)

/-- 'laws.FnMachineRun': WHATEVER THE INPUT: true; the input reads as it did. -/
def fnMachineRunSpec : ChangeSpec := { name := "fnMachineRun", fn := fun _ => fun
  | [d] => { results := [.lit (.bool true)], args := [d] }
  | _ => none }
def fnMachineRunRow : OpenClaim := { program := "ytgodaiiegcdpcaa", sum := "8e6bf46150b192b76d559087b687152d00ffce0353dbc6d26cfa0b3509df2fbc", func := "loop.example/g00238/laws.FnMachineRun", spec := "fnMachineRun", apart := false }
def FnMachineRunSaid : Prop := fnMachineRunRow.holds Try.pinned (OpenSpec.ofChange fnMachineRunSpec)

/-- ITS FALSE NEIGHBOUR: 'it returns false'. Refute it at one input. -/
def fnMachineRunWrong : ChangeSpec := { name := "fnMachineRun", fn := fun _ => fun
  | [d] => { results := [.lit (.bool false)], args := [d] }
  | _ => none }
def FnMachineRunWrongFalsely : Prop := fnMachineRunRow.holds Try.pinned (OpenSpec.ofChange fnMachineRunWrong)

/-- 'laws.FnBetween': WHATEVER THE INPUT: true; the input reads as it did. -/
def fnBetweenSpec : ChangeSpec := { name := "fnBetween", fn := fun _ => fun
  | [d] => { results := [.lit (.bool true)], args := [d] }
  | _ => none }
def fnBetweenRow : OpenClaim := { program := "ytgodaiiegcdpcaa", sum := "8e6bf46150b192b76d559087b687152d00ffce0353dbc6d26cfa0b3509df2fbc", func := "loop.example/g00238/laws.FnBetween", spec := "fnBetween", apart := false }
def FnBetweenSaid : Prop := fnBetweenRow.holds Try.pinned (OpenSpec.ofChange fnBetweenSpec)

/-- ITS FALSE NEIGHBOUR: 'it returns false'. Refute it at one input. -/
def fnBetweenWrong : ChangeSpec := { name := "fnBetween", fn := fun _ => fun
  | [d] => { results := [.lit (.bool false)], args := [d] }
  | _ => none }
def FnBetweenWrongFalsely : Prop := fnBetweenRow.holds Try.pinned (OpenSpec.ofChange fnBetweenWrong)

/- THE SECOND FORM. 'bulk': how many values and letters a reading holds, each counted each time it is reached (what is shared counts as often as it is met; a slice's spare places count too). A statement '..UptoSaid' is the law's where the arguments, and the package variables that the reading takes, are together of bulk at most 1048576: NARROWER than '..Said'. Prove '..Said' where nothing that the law and all that it calls make is longer than what came in: it says more and counts as full. Else prove '..UptoSaid'. A law counts once. -/
mutual
def uptoBulk {H : Type} : DataW H → Nat
  | .lit (.string bytes) => bytes.length + 1
  | .lit _ => 1
  | .nil => 1
  | .ptr d => uptoBulk d + 1
  | .slice elems spare => uptoBulkAll elems + uptoBulkAll spare + 1
  | .agg parts => uptoBulkAll parts + 1
  | .iface _ d => uptoBulk d + 1
  | .map entries => uptoBulkEntries entries + 1
  | .held _ => 1
def uptoBulkAll {H : Type} : List (DataW H) → Nat
  | [] => 0
  | d :: r => uptoBulk d + uptoBulkAll r
def uptoBulkEntries {H : Type} : List (Lit × DataW H) → Nat
  | [] => 0
  | x :: r => uptoBulkEntry x + uptoBulkEntries r
def uptoBulkEntry {H : Type} : Lit × DataW H → Nat
  | (.string bytes, d) => bytes.length + uptoBulk d + 1
  | (_, d) => uptoBulk d + 1
 end
def uptoSmall : (H : Type) → List (DataW H) → Bool := fun _ ds => decide (uptoBulkAll ds ≤ 1048576)
def OpenSpec.upto (s : _root_.Go.ChangeSpec) : _root_.Go.OpenSpec := { _root_.Go.OpenSpec.ofChange s with cond := some uptoSmall }

/-- 'laws.FnLock', WHERE WHAT IT READS IS OF BULK AT MOST 1048576: true; the input reads as it did. -/
def fnLockUptoRow : OpenClaim := { program := "ytgodaiiegcdpcaa", sum := "8e6bf46150b192b76d559087b687152d00ffce0353dbc6d26cfa0b3509df2fbc", func := "loop.example/g00238/laws.FnLock", spec := "fnLock", apart := false, narrowed := true }
def FnLockUptoSaid : Prop := fnLockUptoRow.holds Try.pinned (OpenSpec.upto fnLockSpec)

/-- 'laws.FnPipesWeak', WHERE WHAT IT READS IS OF BULK AT MOST 1048576: true; the input reads as it did. -/
def fnPipesWeakUptoRow : OpenClaim := { program := "ytgodaiiegcdpcaa", sum := "8e6bf46150b192b76d559087b687152d00ffce0353dbc6d26cfa0b3509df2fbc", func := "loop.example/g00238/laws.FnPipesWeak", spec := "fnPipesWeak", apart := false, narrowed := true }
def FnPipesWeakUptoSaid : Prop := fnPipesWeakUptoRow.holds Try.pinned (OpenSpec.upto fnPipesWeakSpec)

/-- 'laws.FnMachine', WHERE WHAT IT READS IS OF BULK AT MOST 1048576: true; the input reads as it did. -/
def fnMachineUptoRow : OpenClaim := { program := "ytgodaiiegcdpcaa", sum := "8e6bf46150b192b76d559087b687152d00ffce0353dbc6d26cfa0b3509df2fbc", func := "loop.example/g00238/laws.FnMachine", spec := "fnMachine", apart := false, narrowed := true }
def FnMachineUptoSaid : Prop := fnMachineUptoRow.holds Try.pinned (OpenSpec.upto fnMachineSpec)

/-- 'laws.FnExactBetween', WHERE WHAT IT READS IS OF BULK AT MOST 1048576: true; the input reads as it did. -/
def fnExactBetweenUptoRow : OpenClaim := { program := "ytgodaiiegcdpcaa", sum := "8e6bf46150b192b76d559087b687152d00ffce0353dbc6d26cfa0b3509df2fbc", func := "loop.example/g00238/laws.FnExactBetween", spec := "fnExactBetween", apart := false, narrowed := true }
def FnExactBetweenUptoSaid : Prop := fnExactBetweenUptoRow.holds Try.pinned (OpenSpec.upto fnExactBetweenSpec)

/-- 'laws.FnAlone', WHERE WHAT IT READS IS OF BULK AT MOST 1048576: true; the input reads as it did. -/
def fnAloneUptoRow : OpenClaim := { program := "ytgodaiiegcdpcaa", sum := "8e6bf46150b192b76d559087b687152d00ffce0353dbc6d26cfa0b3509df2fbc", func := "loop.example/g00238/laws.FnAlone", spec := "fnAlone", apart := false, narrowed := true }
def FnAloneUptoSaid : Prop := fnAloneUptoRow.holds Try.pinned (OpenSpec.upto fnAloneSpec)

/-- 'laws.FnMachineRun', WHERE WHAT IT READS IS OF BULK AT MOST 1048576: true; the input reads as it did. -/
def fnMachineRunUptoRow : OpenClaim := { program := "ytgodaiiegcdpcaa", sum := "8e6bf46150b192b76d559087b687152d00ffce0353dbc6d26cfa0b3509df2fbc", func := "loop.example/g00238/laws.FnMachineRun", spec := "fnMachineRun", apart := false, narrowed := true }
def FnMachineRunUptoSaid : Prop := fnMachineRunUptoRow.holds Try.pinned (OpenSpec.upto fnMachineRunSpec)

/-- 'laws.FnBetween', WHERE WHAT IT READS IS OF BULK AT MOST 1048576: true; the input reads as it did. -/
def fnBetweenUptoRow : OpenClaim := { program := "ytgodaiiegcdpcaa", sum := "8e6bf46150b192b76d559087b687152d00ffce0353dbc6d26cfa0b3509df2fbc", func := "loop.example/g00238/laws.FnBetween", spec := "fnBetween", apart := false, narrowed := true }
def FnBetweenUptoSaid : Prop := fnBetweenUptoRow.holds Try.pinned (OpenSpec.upto fnBetweenSpec)

end Rows
end Go.Proofs.Ytgodaiiegcdpcaa
