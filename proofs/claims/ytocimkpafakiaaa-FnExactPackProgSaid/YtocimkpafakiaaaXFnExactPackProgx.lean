/- Each Go function that the law reaches as a Lean function, and that Go comes to just its answer; written by this session's xprint.py over the kit's printer. -/
import Derived.Test.YtocimkpafakiaaaXFnExactPackProgx0
import Derived.Test.YtocimkpafakiaaaXFnExactPackProgx1
import Derived.Test.YtocimkpafakiaaaXFnExactPackProgx2
import Derived.Test.YtocimkpafakiaaaXFnExactPackProgx3
import Derived.Test.YtocimkpafakiaaaXFnExactPackProgx4
import Derived.Test.YtocimkpafakiaaaXFnExactPackProgx5
import Derived.Test.YtocimkpafakiaaaXFnExactPackProgx6
import Derived.Test.YtocimkpafakiaaaXFnExactPackProgx7
import Derived.Test.YtocimkpafakiaaaXFnExactPackProgx8
import Derived.Test.YtocimkpafakiaaaXFnExactPackProgx9
import Derived.Test.YtocimkpafakiaaaXFnExactPackProgx10
import Derived.Test.YtocimkpafakiaaaXFnExactPackProgx11
import Derived.Test.YtocimkpafakiaaaXFnExactPackProgx12
import Derived.Test.YtocimkpafakiaaaXFnExactPackProgx13
import Derived.Test.YtocimkpafakiaaaXFnExactPackProgx14
import Derived.Test.YtocimkpafakiaaaXFnExactPackProgx15
import Derived.Test.YtocimkpafakiaaaXFnExactPackProgx16
namespace Go.Proofs.Ytocimkpafakiaaa.XFnExactPackProg
open Go.RowKit Go.Proofs.YtocimkpafakiaaaW.PrintWords Go.Proofs.YtocimkpafakiaaaW.PrintLast Go.Proofs.YtocimkpafakiaaaW.PrintMore
attribute [local go_sem] max2_int min2_int max_two min_two max_three min_three max_four min_four   -- for this text's walks alone
set_option linter.unusedVariables false
set_option linter.unusedSimpArgs false

end Go.Proofs.Ytocimkpafakiaaa.XFnExactPackProg
