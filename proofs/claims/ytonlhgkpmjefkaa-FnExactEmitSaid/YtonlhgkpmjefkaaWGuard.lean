/- Words of the printed proofs: those that this claim's texts use. -/

import Derived.Test.YtonlhgkpmjefkaaWWords
namespace Go.Proofs.YtonlhgkpmjefkaaW.PrintWords
open Go.RowKit
section
variable {P : Program} {ops : Array Oper} {rest : List Oper} {o : Oper} {a : Act} {Q : Exit → Act → World → Prop} {W : World}
end
end Go.Proofs.YtonlhgkpmjefkaaW.PrintWords
