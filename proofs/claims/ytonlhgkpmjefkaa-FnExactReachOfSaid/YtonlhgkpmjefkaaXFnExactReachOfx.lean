/- Each Go function that the law reaches as a Lean function, and that Go comes to just its answer; written by this session's xprint.py over the kit's printer. -/
import Derived.Test.YtonlhgkpmjefkaaXFnExactReachOfx0
import Derived.Test.YtonlhgkpmjefkaaXFnExactReachOfx1
import Derived.Test.YtonlhgkpmjefkaaXFnExactReachOfx2
import Derived.Test.YtonlhgkpmjefkaaXFnExactReachOfx3
import Derived.Test.YtonlhgkpmjefkaaXFnExactReachOfx4
import Derived.Test.YtonlhgkpmjefkaaXFnExactReachOfx5
import Derived.Test.YtonlhgkpmjefkaaXFnExactReachOfx6
import Derived.Test.YtonlhgkpmjefkaaXFnExactReachOfx7
import Derived.Test.YtonlhgkpmjefkaaXFnExactReachOfx8
import Derived.Test.YtonlhgkpmjefkaaXFnExactReachOfx9
import Derived.Test.YtonlhgkpmjefkaaXFnExactReachOfx10
import Derived.Test.YtonlhgkpmjefkaaXFnExactReachOfx11
namespace Go.Proofs.Ytonlhgkpmjefkaa.XFnExactReachOf
open Go.RowKit Go.Proofs.YtonlhgkpmjefkaaW.PrintWords Go.Proofs.YtonlhgkpmjefkaaW.PrintLast Go.Proofs.YtonlhgkpmjefkaaW.PrintMore
attribute [local go_sem] max2_int min2_int max_two min_two max_three min_three max_four min_four   -- for this text's walks alone
set_option linter.unusedVariables false
set_option linter.unusedSimpArgs false

end Go.Proofs.Ytonlhgkpmjefkaa.XFnExactReachOf
