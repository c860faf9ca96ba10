/- Each Go function that the law reaches as a Lean function, and that Go comes to just its answer; written by this session's xprint.py over the kit's printer. -/
import Derived.Test.YtocimkpafakiaaaXFnExactTrimProgx0
import Derived.Test.YtocimkpafakiaaaXFnExactTrimProgx1
import Derived.Test.YtocimkpafakiaaaXFnExactTrimProgx2
import Derived.Test.YtocimkpafakiaaaXFnExactTrimProgx3
import Derived.Test.YtocimkpafakiaaaXFnExactTrimProgx4
import Derived.Test.YtocimkpafakiaaaXFnExactTrimProgx5
import Derived.Test.YtocimkpafakiaaaXFnExactTrimProgx6
import Derived.Test.YtocimkpafakiaaaXFnExactTrimProgx7
import Derived.Test.YtocimkpafakiaaaXFnExactTrimProgx8
import Derived.Test.YtocimkpafakiaaaXFnExactTrimProgx9
import Derived.Test.YtocimkpafakiaaaXFnExactTrimProgx10
import Derived.Test.YtocimkpafakiaaaXFnExactTrimProgx11
import Derived.Test.YtocimkpafakiaaaXFnExactTrimProgx12
import Derived.Test.YtocimkpafakiaaaXFnExactTrimProgx13
import Derived.Test.YtocimkpafakiaaaXFnExactTrimProgx14
import Derived.Test.YtocimkpafakiaaaXFnExactTrimProgx15
import Derived.Test.YtocimkpafakiaaaXFnExactTrimProgx16
import Derived.Test.YtocimkpafakiaaaXFnExactTrimProgx17
import Derived.Test.YtocimkpafakiaaaXFnExactTrimProgx18
import Derived.Test.YtocimkpafakiaaaXFnExactTrimProgx19
import Derived.Test.YtocimkpafakiaaaXFnExactTrimProgx20
namespace Go.Proofs.Ytocimkpafakiaaa.XFnExactTrimProg
open Go.RowKit Go.Proofs.YtocimkpafakiaaaW.PrintWords Go.Proofs.YtocimkpafakiaaaW.PrintLast Go.Proofs.YtocimkpafakiaaaW.PrintMore
attribute [local go_sem] max2_int min2_int max_two min_two max_three min_three max_four min_four   -- for this text's walks alone
set_option linter.unusedVariables false
set_option linter.unusedSimpArgs false

end Go.Proofs.Ytocimkpafakiaaa.XFnExactTrimProg
