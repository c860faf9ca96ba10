/- Each Go function that the law reaches as a Lean function, and that Go comes to just its answer; written by this session's xprint.py over the kit's printer. -/
import Derived.Test.YtocimkpafakiaaaXFnExactLiveAtx0
import Derived.Test.YtocimkpafakiaaaXFnExactLiveAtx1
import Derived.Test.YtocimkpafakiaaaXFnExactLiveAtx2
import Derived.Test.YtocimkpafakiaaaXFnExactLiveAtx3
import Derived.Test.YtocimkpafakiaaaXFnExactLiveAtx4
import Derived.Test.YtocimkpafakiaaaXFnExactLiveAtx5
import Derived.Test.YtocimkpafakiaaaXFnExactLiveAtx6
import Derived.Test.YtocimkpafakiaaaXFnExactLiveAtx7
import Derived.Test.YtocimkpafakiaaaXFnExactLiveAtx8
import Derived.Test.YtocimkpafakiaaaXFnExactLiveAtx9
import Derived.Test.YtocimkpafakiaaaXFnExactLiveAtx10
import Derived.Test.YtocimkpafakiaaaXFnExactLiveAtx11
import Derived.Test.YtocimkpafakiaaaXFnExactLiveAtx12
namespace Go.Proofs.Ytocimkpafakiaaa.XFnExactLiveAt
open Go.RowKit Go.Proofs.YtocimkpafakiaaaW.PrintWords Go.Proofs.YtocimkpafakiaaaW.PrintLast Go.Proofs.YtocimkpafakiaaaW.PrintMore
attribute [local go_sem] max2_int min2_int max_two min_two max_three min_three max_four min_four   -- for this text's walks alone
set_option linter.unusedVariables false
set_option linter.unusedSimpArgs false

end Go.Proofs.Ytocimkpafakiaaa.XFnExactLiveAt
