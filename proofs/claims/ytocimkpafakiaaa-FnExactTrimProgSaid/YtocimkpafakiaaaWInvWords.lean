/- Words of the printed proofs: those that this claim's texts use. -/

import Derived.Test.YtocimkpafakiaaaWInv
import Derived.Test.YtocimkpafakiaaaWFootNe
namespace Go.Proofs.YtocimkpafakiaaaW.PrintWords
open Go.RowKit
end Go.Proofs.YtocimkpafakiaaaW.PrintWords
namespace Go.Proofs.YtocimkpafakiaaaW.PrintLast
section
variable {ops : Array Oper} {a : Act} {o og : Oper} {g : Nat} {t : Tmp} {u : Bool}
end
end Go.Proofs.YtocimkpafakiaaaW.PrintLast
