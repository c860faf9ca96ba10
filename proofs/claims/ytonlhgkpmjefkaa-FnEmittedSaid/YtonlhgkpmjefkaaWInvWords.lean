/- Words of the printed proofs: those that this claim's texts use. -/

import Derived.Test.YtonlhgkpmjefkaaWInv
import Derived.Test.YtonlhgkpmjefkaaWFootNe
namespace Go.Proofs.YtonlhgkpmjefkaaW.PrintWords
open Go.RowKit
end Go.Proofs.YtonlhgkpmjefkaaW.PrintWords
namespace Go.Proofs.YtonlhgkpmjefkaaW.PrintLast
section
variable {ops : Array Oper} {a : Act} {o og : Oper} {g : Nat} {t : Tmp} {u : Bool}
end
end Go.Proofs.YtonlhgkpmjefkaaW.PrintLast
