/- Each Go function that the law reaches as a Lean function, and that Go comes to just its answer; written by this session's xprint.py over the kit's printer. -/
import Derived.Test.YtocimkpafakiaaaXFnExactKnownAtx0
import Derived.Test.YtocimkpafakiaaaXFnExactKnownAtx1
import Derived.Test.YtocimkpafakiaaaXFnExactKnownAtx2
import Derived.Test.YtocimkpafakiaaaXFnExactKnownAtx3
import Derived.Test.YtocimkpafakiaaaXFnExactKnownAtx4
import Derived.Test.YtocimkpafakiaaaXFnExactKnownAtx5
import Derived.Test.YtocimkpafakiaaaXFnExactKnownAtx6
import Derived.Test.YtocimkpafakiaaaXFnExactKnownAtx7
import Derived.Test.YtocimkpafakiaaaXFnExactKnownAtx8
import Derived.Test.YtocimkpafakiaaaXFnExactKnownAtx9
import Derived.Test.YtocimkpafakiaaaXFnExactKnownAtx10
import Derived.Test.YtocimkpafakiaaaXFnExactKnownAtx11
import Derived.Test.YtocimkpafakiaaaXFnExactKnownAtx12
import Derived.Test.YtocimkpafakiaaaXFnExactKnownAtx13
import Derived.Test.YtocimkpafakiaaaXFnExactKnownAtx14
import Derived.Test.YtocimkpafakiaaaXFnExactKnownAtx15
import Derived.Test.YtocimkpafakiaaaXFnExactKnownAtx16
import Derived.Test.YtocimkpafakiaaaXFnExactKnownAtx17
namespace Go.Proofs.Ytocimkpafakiaaa.XFnExactKnownAt
open Go.RowKit Go.Proofs.YtocimkpafakiaaaW.PrintWords Go.Proofs.YtocimkpafakiaaaW.PrintLast Go.Proofs.YtocimkpafakiaaaW.PrintMore
attribute [local go_sem] max2_int min2_int max_two min_two max_three min_three max_four min_four   -- for this text's walks alone
set_option linter.unusedVariables false
set_option linter.unusedSimpArgs false

end Go.Proofs.Ytocimkpafakiaaa.XFnExactKnownAt
