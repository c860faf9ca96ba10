/-
  No cell of these rows narrows 'for every input' (looked for: loops, veiled, ifaces, maps, wideKeys, modest, calm, conditions, laid).
  DERIVED. THE GIVEN ROWS OF THIS SEAT. 12 by the template 'for every input the law returns true; each argument reads behind the call as it read before'; 0 by the template 'total and deterministic' (their statements: YtonlhgkpmjefkaaTotals.lean).
  GIVEN WITH THE SEED: the statements are not yours to turn. If you find one false, say at which input.
  Laid BY PROGRAM, IN A SANDBOX (cutbox-rows.mjs): the forced cells as the released guide's own fill.sh prints them over the translation e3f6d3b3fa105bea… (all of the seat's roots in one cut). By AI agents, Wed Nov 11 2026. No macro, syntax, notation, axiom, sorry.
-/
import Derived.Test.YtonlhgkpmjefkaaChecked
import GoSem.Claim
import GoSem.ClaimJoined
import GoSem.ClaimMapViews
import Derived.JoinedTies
import Derived.KernelRfl
namespace Go.Proofs.Ytonlhgkpmjefkaa
/- THE CELL 'sum', in the pinned program and in every row, IS THE sha256 OF THE DUMP (.gsa) THAT YtonlhgkpmjefkaaProg.lean LOADS. Nothing in Lean hashes anything: it is a label: what it is worth is what the hold of that sum in a sandbox is worth. -/
noncomputable def Try.pinned : Pinned := { name := "ytonlhgkpmjefkaa", sum := "e3f6d3b3fa105bea104ce432780b19b934ac65b0f90019a21f87c733e490c70f", checked := Try.checked }
namespace Rows
def none {H : Type} : Left H := { results := [], args := [] }

/-- 'laws.FnExactSizeOf': WHATEVER THE INPUT: true; the input reads as it did. -/
def fnExactSizeOfSpec : ChangeSpec := { name := "fnExactSizeOf", fn := fun _ => fun
  | [d] => { results := [.lit (.bool true)], args := [d] }
  | _ => none }
def fnExactSizeOfRow : OpenClaim := { program := "ytonlhgkpmjefkaa", sum := "e3f6d3b3fa105bea104ce432780b19b934ac65b0f90019a21f87c733e490c70f", func := "loop.example/g00238/laws.FnExactSizeOf", spec := "fnExactSizeOf", apart := false }
def FnExactSizeOfSaid : Prop := fnExactSizeOfRow.holds Try.pinned (OpenSpec.ofChange fnExactSizeOfSpec)

/-- ITS FALSE NEIGHBOUR: 'it returns false'. Refute it at one input. -/
def fnExactSizeOfWrong : ChangeSpec := { name := "fnExactSizeOf", fn := fun _ => fun
  | [d] => { results := [.lit (.bool false)], args := [d] }
  | _ => none }
def FnExactSizeOfWrongFalsely : Prop := fnExactSizeOfRow.holds Try.pinned (OpenSpec.ofChange fnExactSizeOfWrong)

/-- 'laws.FnEmitted': WHATEVER THE INPUT: true; the input reads as it did. -/
def fnEmittedSpec : ChangeSpec := { name := "fnEmitted", fn := fun _ => fun
  | [d] => { results := [.lit (.bool true)], args := [d] }
  | _ => none }
def fnEmittedRow : OpenClaim := { program := "ytonlhgkpmjefkaa", sum := "e3f6d3b3fa105bea104ce432780b19b934ac65b0f90019a21f87c733e490c70f", func := "loop.example/g00238/laws.FnEmitted", spec := "fnEmitted", apart := false }
def FnEmittedSaid : Prop := fnEmittedRow.holds Try.pinned (OpenSpec.ofChange fnEmittedSpec)

/-- ITS FALSE NEIGHBOUR: 'it returns false'. Refute it at one input. -/
def fnEmittedWrong : ChangeSpec := { name := "fnEmitted", fn := fun _ => fun
  | [d] => { results := [.lit (.bool false)], args := [d] }
  | _ => none }
def FnEmittedWrongFalsely : Prop := fnEmittedRow.holds Try.pinned (OpenSpec.ofChange fnEmittedWrong)

/-- 'laws.FnExactSkip': WHATEVER THE INPUT: true; the input reads as it did. -/
def fnExactSkipSpec : ChangeSpec := { name := "fnExactSkip", fn := fun _ => fun
  | [d1, d2] => { results := [.lit (.bool true)], args := [d1, d2] }
  | _ => none }
def fnExactSkipRow : OpenClaim := { program := "ytonlhgkpmjefkaa", sum := "e3f6d3b3fa105bea104ce432780b19b934ac65b0f90019a21f87c733e490c70f", func := "loop.example/g00238/laws.FnExactSkip", spec := "fnExactSkip", apart := false }
def FnExactSkipSaid : Prop := fnExactSkipRow.holds Try.pinned (OpenSpec.ofChange fnExactSkipSpec)

/-- ITS FALSE NEIGHBOUR: 'it returns false'. Refute it at one input. -/
def fnExactSkipWrong : ChangeSpec := { name := "fnExactSkip", fn := fun _ => fun
  | [d1, d2] => { results := [.lit (.bool false)], args := [d1, d2] }
  | _ => none }
def FnExactSkipWrongFalsely : Prop := fnExactSkipRow.holds Try.pinned (OpenSpec.ofChange fnExactSkipWrong)

/-- 'laws.FnExactPipe': WHATEVER THE INPUT: true; the input reads as it did. -/
def fnExactPipeSpec : ChangeSpec := { name := "fnExactPipe", fn := fun _ => fun
  | [d1, d2] => { results := [.lit (.bool true)], args := [d1, d2] }
  | _ => none }
def fnExactPipeRow : OpenClaim := { program := "ytonlhgkpmjefkaa", sum := "e3f6d3b3fa105bea104ce432780b19b934ac65b0f90019a21f87c733e490c70f", func := "loop.example/g00238/laws.FnExactPipe", spec := "fnExactPipe", apart := false }
def FnExactPipeSaid : Prop := fnExactPipeRow.holds Try.pinned (OpenSpec.ofChange fnExactPipeSpec)

/-- ITS FALSE NEIGHBOUR: 'it returns false'. Refute it at one input. -/
def fnExactPipeWrong : ChangeSpec := { name := "fnExactPipe", fn := fun _ => fun
  | [d1, d2] => { results := [.lit (.bool false)], args := [d1, d2] }
  | _ => none }
def FnExactPipeWrongFalsely : Prop := fnExactPipeRow.holds Try.pinned (OpenSpec.ofChange fnExactPipeWrong)

/-- 'laws.FnPipeBodies': WHATEVER THE INPUT: true; the input reads as it did. -/
def fnPipeBodiesSpec : ChangeSpec := { name := "fnPipeBodies", fn := fun _ => fun
  | [d] => { results := [.lit (.bool true)], args := [d] }
  | _ => none }
def fnPipeBodiesRow : OpenClaim := { program := "ytonlhgkpmjefkaa", sum := "e3f6d3b3fa105bea104ce432780b19b934ac65b0f90019a21f87c733e490c70f", func := "loop.example/g00238/laws.FnPipeBodies", spec := "fnPipeBodies", apart := false }
def FnPipeBodiesSaid : Prop := fnPipeBodiesRow.holds Try.pinned (OpenSpec.ofChange fnPipeBodiesSpec)

/-- ITS FALSE NEIGHBOUR: 'it returns false'. Refute it at one input. -/
def fnPipeBodiesWrong : ChangeSpec := { name := "fnPipeBodies", fn := fun _ => fun
  | [d] => { results := [.lit (.bool false)], args := [d] }
  | _ => none }
def FnPipeBodiesWrongFalsely : Prop := fnPipeBodiesRow.holds Try.pinned (OpenSpec.ofChange fnPipeBodiesWrong)

/-- 'laws.FnExactPlaceOf': WHATEVER THE INPUT: true; the input reads as it did. -/
def fnExactPlaceOfSpec : ChangeSpec := { name := "fnExactPlaceOf", fn := fun _ => fun
  | [d1, d2, d3] => { results := [.lit (.bool true)], args := [d1, d2, d3] }
  | _ => none }
def fnExactPlaceOfRow : OpenClaim := { program := "ytonlhgkpmjefkaa", sum := "e3f6d3b3fa105bea104ce432780b19b934ac65b0f90019a21f87c733e490c70f", func := "loop.example/g00238/laws.FnExactPlaceOf", spec := "fnExactPlaceOf", apart := false }
def FnExactPlaceOfSaid : Prop := fnExactPlaceOfRow.holds Try.pinned (OpenSpec.ofChange fnExactPlaceOfSpec)

/-- ITS FALSE NEIGHBOUR: 'it returns false'. Refute it at one input. -/
def fnExactPlaceOfWrong : ChangeSpec := { name := "fnExactPlaceOf", fn := fun _ => fun
  | [d1, d2, d3] => { results := [.lit (.bool false)], args := [d1, d2, d3] }
  | _ => none }
def FnExactPlaceOfWrongFalsely : Prop := fnExactPlaceOfRow.holds Try.pinned (OpenSpec.ofChange fnExactPlaceOfWrong)

/-- 'laws.FnPlaces': WHATEVER THE INPUT: true; the input reads as it did. -/
def fnPlacesSpec : ChangeSpec := { name := "fnPlaces", fn := fun _ => fun
  | [d] => { results := [.lit (.bool true)], args := [d] }
  | _ => none }
def fnPlacesRow : OpenClaim := { program := "ytonlhgkpmjefkaa", sum := "e3f6d3b3fa105bea104ce432780b19b934ac65b0f90019a21f87c733e490c70f", func := "loop.example/g00238/laws.FnPlaces", spec := "fnPlaces", apart := false }
def FnPlacesSaid : Prop := fnPlacesRow.holds Try.pinned (OpenSpec.ofChange fnPlacesSpec)

/-- ITS FALSE NEIGHBOUR: 'it returns false'. Refute it at one input. -/
def fnPlacesWrong : ChangeSpec := { name := "fnPlaces", fn := fun _ => fun
  | [d] => { results := [.lit (.bool false)], args := [d] }
  | _ => none }
def FnPlacesWrongFalsely : Prop := fnPlacesRow.holds Try.pinned (OpenSpec.ofChange fnPlacesWrong)

/-- 'laws.FnExactStarts': WHATEVER THE INPUT: true; the input reads as it did. -/
def fnExactStartsSpec : ChangeSpec := { name := "fnExactStarts", fn := fun _ => fun
  | [d1, d2] => { results := [.lit (.bool true)], args := [d1, d2] }
  | _ => none }
def fnExactStartsRow : OpenClaim := { program := "ytonlhgkpmjefkaa", sum := "e3f6d3b3fa105bea104ce432780b19b934ac65b0f90019a21f87c733e490c70f", func := "loop.example/g00238/laws.FnExactStarts", spec := "fnExactStarts", apart := false }
def FnExactStartsSaid : Prop := fnExactStartsRow.holds Try.pinned (OpenSpec.ofChange fnExactStartsSpec)

/-- ITS FALSE NEIGHBOUR: 'it returns false'. Refute it at one input. -/
def fnExactStartsWrong : ChangeSpec := { name := "fnExactStarts", fn := fun _ => fun
  | [d1, d2] => { results := [.lit (.bool false)], args := [d1, d2] }
  | _ => none }
def FnExactStartsWrongFalsely : Prop := fnExactStartsRow.holds Try.pinned (OpenSpec.ofChange fnExactStartsWrong)

/-- 'laws.FnExactEmit': WHATEVER THE INPUT: true; the input reads as it did. -/
def fnExactEmitSpec : ChangeSpec := { name := "fnExactEmit", fn := fun _ => fun
  | [d1, d2, d3, d4] => { results := [.lit (.bool true)], args := [d1, d2, d3, d4] }
  | _ => none }
def fnExactEmitRow : OpenClaim := { program := "ytonlhgkpmjefkaa", sum := "e3f6d3b3fa105bea104ce432780b19b934ac65b0f90019a21f87c733e490c70f", func := "loop.example/g00238/laws.FnExactEmit", spec := "fnExactEmit", apart := false }
def FnExactEmitSaid : Prop := fnExactEmitRow.holds Try.pinned (OpenSpec.ofChange fnExactEmitSpec)

/-- ITS FALSE NEIGHBOUR: 'it returns false'. Refute it at one input. -/
def fnExactEmitWrong : ChangeSpec := { name := "fnExactEmit", fn := fun _ => fun
  | [d1, d2, d3, d4] => { results := [.lit (.bool false)], args := [d1, d2, d3, d4] }
  | _ => none }
def FnExactEmitWrongFalsely : Prop := fnExactEmitRow.holds Try.pinned (OpenSpec.ofChange fnExactEmitWrong)

/-- 'laws.FnExactSourceBytes': WHATEVER THE INPUT: true; the input reads as it did. -/
def fnExactSourceBytesSpec : ChangeSpec := { name := "fnExactSourceBytes", fn := fun _ => fun
  | [d1, d2] => { results := [.lit (.bool true)], args := [d1, d2] }
  | _ => none }
def fnExactSourceBytesRow : OpenClaim := { program := "ytonlhgkpmjefkaa", sum := "e3f6d3b3fa105bea104ce432780b19b934ac65b0f90019a21f87c733e490c70f", func := "loop.example/g00238/laws.FnExactSourceBytes", spec := "fnExactSourceBytes", apart := false }
def FnExactSourceBytesSaid : Prop := fnExactSourceBytesRow.holds Try.pinned (OpenSpec.ofChange fnExactSourceBytesSpec)

/-- ITS FALSE NEIGHBOUR: 'it returns false'. Refute it at one input. -/
def fnExactSourceBytesWrong : ChangeSpec := { name := "fnExactSourceBytes", fn := fun _ => fun
  | [d1, d2] => { results := [.lit (.bool false)], args := [d1, d2] }
  | _ => none }
def FnExactSourceBytesWrongFalsely : Prop := fnExactSourceBytesRow.holds Try.pinned (OpenSpec.ofChange fnExactSourceBytesWrong)

/-- 'laws.FnCompiled': WHATEVER THE INPUT: true; the input reads as it did. -/
def fnCompiledSpec : ChangeSpec := { name := "fnCompiled", fn := fun _ => fun
  | [d] => { results := [.lit (.bool true)], args := [d] }
  | _ => none }
def fnCompiledRow : OpenClaim := { program := "ytonlhgkpmjefkaa", sum := "e3f6d3b3fa105bea104ce432780b19b934ac65b0f90019a21f87c733e490c70f", func := "loop.example/g00238/laws.FnCompiled", spec := "fnCompiled", apart := false }
def FnCompiledSaid : Prop := fnCompiledRow.holds Try.pinned (OpenSpec.ofChange fnCompiledSpec)

/-- ITS FALSE NEIGHBOUR: 'it returns false'. Refute it at one input. -/
def fnCompiledWrong : ChangeSpec := { name := "fnCompiled", fn := fun _ => fun
  | [d] => { results := [.lit (.bool false)], args := [d] }
  | _ => none }
def FnCompiledWrongFalsely : Prop := fnCompiledRow.holds Try.pinned (OpenSpec.ofChange fnCompiledWrong)

/-- 'laws.FnExactReachOf': WHATEVER THE INPUT: true; the input reads as it did. -/
def fnExactReachOfSpec : ChangeSpec := { name := "fnExactReachOf", fn := fun _ => fun
  | [d1, d2] => { results := [.lit (.bool true)], args := [d1, d2] }
  | _ => none }
def fnExactReachOfRow : OpenClaim := { program := "ytonlhgkpmjefkaa", sum := "e3f6d3b3fa105bea104ce432780b19b934ac65b0f90019a21f87c733e490c70f", func := "loop.example/g00238/laws.FnExactReachOf", spec := "fnExactReachOf", recurses := true, apart := false }
def FnExactReachOfSaid : Prop := fnExactReachOfRow.holds Try.pinned (OpenSpec.ofChange fnExactReachOfSpec)

/-- ITS FALSE NEIGHBOUR: 'it returns false'. Refute it at one input. -/
def fnExactReachOfWrong : ChangeSpec := { name := "fnExactReachOf", fn := fun _ => fun
  | [d1, d2] => { results := [.lit (.bool false)], args := [d1, d2] }
  | _ => none }
def FnExactReachOfWrongFalsely : Prop := fnExactReachOfRow.holds Try.pinned (OpenSpec.ofChange fnExactReachOfWrong)

/- THE SECOND FORM. 'bulk': how many values and letters a reading holds, each counted each time it is reached (what is shared counts as often as it is met; a slice's spare places count too). A statement '..UptoSaid' is the law's where the arguments, and the package variables that the reading takes, are together of bulk at most 1048576: NARROWER than '..Said'. Prove '..Said' where nothing that the law and all that it calls make is longer than what came in: it says more and counts as full. Else prove '..UptoSaid'. A law counts once. -/
mutual
def uptoBulk {H : Type} : DataW H → Nat
  | .lit (.string bytes) => bytes.length + 1
  | .lit _ => 1
  | .nil => 1
  | .ptr d => uptoBulk d + 1
  | .slice elems spare => uptoBulkAll elems + uptoBulkAll spare + 1
  | .agg parts => uptoBulkAll parts + 1
  | .iface _ d => uptoBulk d + 1
  | .map entries => uptoBulkEntries entries + 1
  | .held _ => 1
def uptoBulkAll {H : Type} : List (DataW H) → Nat
  | [] => 0
  | d :: r => uptoBulk d + uptoBulkAll r
def uptoBulkEntries {H : Type} : List (Lit × DataW H) → Nat
  | [] => 0
  | x :: r => uptoBulkEntry x + uptoBulkEntries r
def uptoBulkEntry {H : Type} : Lit × DataW H → Nat
  | (.string bytes, d) => bytes.length + uptoBulk d + 1
  | (_, d) => uptoBulk d + 1
 end
def uptoSmall : (H : Type) → List (DataW H) → Bool := fun _ ds => decide (uptoBulkAll ds ≤ 1048576)
def OpenSpec.upto (s : _root_.Go.ChangeSpec) : _root_.Go.OpenSpec := { _root_.Go.OpenSpec.ofChange s with cond := some uptoSmall }

/-- 'laws.FnExactSizeOf', WHERE WHAT IT READS IS OF BULK AT MOST 1048576: true; the input reads as it did. -/
def fnExactSizeOfUptoRow : OpenClaim := { program := "ytonlhgkpmjefkaa", sum := "e3f6d3b3fa105bea104ce432780b19b934ac65b0f90019a21f87c733e490c70f", func := "loop.example/g00238/laws.FnExactSizeOf", spec := "fnExactSizeOf", apart := false, narrowed := true }
def FnExactSizeOfUptoSaid : Prop := fnExactSizeOfUptoRow.holds Try.pinned (OpenSpec.upto fnExactSizeOfSpec)

/-- 'laws.FnEmitted', WHERE WHAT IT READS IS OF BULK AT MOST 1048576: true; the input reads as it did. -/
def fnEmittedUptoRow : OpenClaim := { program := "ytonlhgkpmjefkaa", sum := "e3f6d3b3fa105bea104ce432780b19b934ac65b0f90019a21f87c733e490c70f", func := "loop.example/g00238/laws.FnEmitted", spec := "fnEmitted", apart := false, narrowed := true }
def FnEmittedUptoSaid : Prop := fnEmittedUptoRow.holds Try.pinned (OpenSpec.upto fnEmittedSpec)

/-- 'laws.FnExactSkip', WHERE WHAT IT READS IS OF BULK AT MOST 1048576: true; the input reads as it did. -/
def fnExactSkipUptoRow : OpenClaim := { program := "ytonlhgkpmjefkaa", sum := "e3f6d3b3fa105bea104ce432780b19b934ac65b0f90019a21f87c733e490c70f", func := "loop.example/g00238/laws.FnExactSkip", spec := "fnExactSkip", apart := false, narrowed := true }
def FnExactSkipUptoSaid : Prop := fnExactSkipUptoRow.holds Try.pinned (OpenSpec.upto fnExactSkipSpec)

/-- 'laws.FnExactPipe', WHERE WHAT IT READS IS OF BULK AT MOST 1048576: true; the input reads as it did. -/
def fnExactPipeUptoRow : OpenClaim := { program := "ytonlhgkpmjefkaa", sum := "e3f6d3b3fa105bea104ce432780b19b934ac65b0f90019a21f87c733e490c70f", func := "loop.example/g00238/laws.FnExactPipe", spec := "fnExactPipe", apart := false, narrowed := true }
def FnExactPipeUptoSaid : Prop := fnExactPipeUptoRow.holds Try.pinned (OpenSpec.upto fnExactPipeSpec)

/-- 'laws.FnPipeBodies', WHERE WHAT IT READS IS OF BULK AT MOST 1048576: true; the input reads as it did. -/
def fnPipeBodiesUptoRow : OpenClaim := { program := "ytonlhgkpmjefkaa", sum := "e3f6d3b3fa105bea104ce432780b19b934ac65b0f90019a21f87c733e490c70f", func := "loop.example/g00238/laws.FnPipeBodies", spec := "fnPipeBodies", apart := false, narrowed := true }
def FnPipeBodiesUptoSaid : Prop := fnPipeBodiesUptoRow.holds Try.pinned (OpenSpec.upto fnPipeBodiesSpec)

/-- 'laws.FnExactPlaceOf', WHERE WHAT IT READS IS OF BULK AT MOST 1048576: true; the input reads as it did. -/
def fnExactPlaceOfUptoRow : OpenClaim := { program := "ytonlhgkpmjefkaa", sum := "e3f6d3b3fa105bea104ce432780b19b934ac65b0f90019a21f87c733e490c70f", func := "loop.example/g00238/laws.FnExactPlaceOf", spec := "fnExactPlaceOf", apart := false, narrowed := true }
def FnExactPlaceOfUptoSaid : Prop := fnExactPlaceOfUptoRow.holds Try.pinned (OpenSpec.upto fnExactPlaceOfSpec)

/-- 'laws.FnPlaces', WHERE WHAT IT READS IS OF BULK AT MOST 1048576: true; the input reads as it did. -/
def fnPlacesUptoRow : OpenClaim := { program := "ytonlhgkpmjefkaa", sum := "e3f6d3b3fa105bea104ce432780b19b934ac65b0f90019a21f87c733e490c70f", func := "loop.example/g00238/laws.FnPlaces", spec := "fnPlaces", apart := false, narrowed := true }
def FnPlacesUptoSaid : Prop := fnPlacesUptoRow.holds Try.pinned (OpenSpec.upto fnPlacesSpec)

/-- 'laws.FnExactStarts', WHERE WHAT IT READS IS OF BULK AT MOST 1048576: true; the input reads as it did. -/
def fnExactStartsUptoRow : OpenClaim := { program := "ytonlhgkpmjefkaa", sum := "e3f6d3b3fa105bea104ce432780b19b934ac65b0f90019a21f87c733e490c70f", func := "loop.example/g00238/laws.FnExactStarts", spec := "fnExactStarts", apart := false, narrowed := true }
def FnExactStartsUptoSaid : Prop := fnExactStartsUptoRow.holds Try.pinned (OpenSpec.upto fnExactStartsSpec)

/-- 'laws.FnExactEmit', WHERE WHAT IT READS IS OF BULK AT MOST 1048576: true; the input reads as it did. -/
def fnExactEmitUptoRow : OpenClaim := { program := "ytonlhgkpmjefkaa", sum := "e3f6d3b3fa105bea104ce432780b19b934ac65b0f90019a21f87c733e490c70f", func := "loop.example/g00238/laws.FnExactEmit", spec := "fnExactEmit", apart := false, narrowed := true }
def FnExactEmitUptoSaid : Prop := fnExactEmitUptoRow.holds Try.pinned (OpenSpec.upto fnExactEmitSpec)

/-- 'laws.FnExactSourceBytes', WHERE WHAT IT READS IS OF BULK AT MOST 1048576: true; the input reads as it did. -/
def fnExactSourceBytesUptoRow : OpenClaim := { program := "ytonlhgkpmjefkaa", sum := "e3f6d3b3fa105bea104ce432780b19b934ac65b0f90019a21f87c733e490c70f", func := "loop.example/g00238/laws.FnExactSourceBytes", spec := "fnExactSourceBytes", apart := false, narrowed := true }
def FnExactSourceBytesUptoSaid : Prop := fnExactSourceBytesUptoRow.holds Try.pinned (OpenSpec.upto fnExactSourceBytesSpec)

/-- 'laws.FnCompiled', WHERE WHAT IT READS IS OF BULK AT MOST 1048576: true; the input reads as it did. -/
def fnCompiledUptoRow : OpenClaim := { program := "ytonlhgkpmjefkaa", sum := "e3f6d3b3fa105bea104ce432780b19b934ac65b0f90019a21f87c733e490c70f", func := "loop.example/g00238/laws.FnCompiled", spec := "fnCompiled", apart := false, narrowed := true }
def FnCompiledUptoSaid : Prop := fnCompiledUptoRow.holds Try.pinned (OpenSpec.upto fnCompiledSpec)

/-- 'laws.FnExactReachOf', WHERE WHAT IT READS IS OF BULK AT MOST 1048576: true; the input reads as it did. -/
def fnExactReachOfUptoRow : OpenClaim := { program := "ytonlhgkpmjefkaa", sum := "e3f6d3b3fa105bea104ce432780b19b934ac65b0f90019a21f87c733e490c70f", func := "loop.example/g00238/laws.FnExactReachOf", spec := "fnExactReachOf", recurses := true, apart := false, narrowed := true }
def FnExactReachOfUptoSaid : Prop := fnExactReachOfUptoRow.holds Try.pinned (OpenSpec.upto fnExactReachOfSpec)

end Rows
end Go.Proofs.Ytonlhgkpmjefkaa
