/- Words of the printed proofs: those that this claim's texts use. -/

import Derived.Test.YtonlhgkpmjefkaaWTab
namespace Go.Proofs.YtonlhgkpmjefkaaW.PrintLast
section
variable {P : Program} {ops : Array Oper} {Q : Exit → Act → World → Prop} {md : Region.Mode} {T : Bool × List (List Nat × List Nat)} {B : List Nat} {O : List Nat} {b : Nat → Bool} {i j n : Nat}
end
end Go.Proofs.YtonlhgkpmjefkaaW.PrintLast
