/- Words of the printed proofs: those that this claim's texts use. -/

import Derived.Test.YtonlhgkpmjefkaaWN
namespace Go.Proofs.YtonlhgkpmjefkaaW.PrintWords
open Go.RowKit
namespace Kd
section
variable {α : Type} {d : Kd α} {W : World} {g n : Nat} {S ok : Nat → Prop} {A : Option Addr} {ad : Addr} {xs : List α}
end
end Kd
end Go.Proofs.YtonlhgkpmjefkaaW.PrintWords
