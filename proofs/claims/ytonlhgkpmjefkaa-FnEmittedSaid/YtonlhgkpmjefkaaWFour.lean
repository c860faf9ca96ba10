/- Words of the printed proofs: those that this claim's texts use. -/

import Derived.Test.YtonlhgkpmjefkaaWTab
namespace Go.Proofs.YtonlhgkpmjefkaaW.PrintLast
section
variable {P : Program} {ops : Array Oper} {Q : Exit → Act → World → Prop} {md : Region.Mode} {S : World → Prop} {ds : List Nat} {T : Bool × List (List Nat × List Nat)}
end
end Go.Proofs.YtonlhgkpmjefkaaW.PrintLast
