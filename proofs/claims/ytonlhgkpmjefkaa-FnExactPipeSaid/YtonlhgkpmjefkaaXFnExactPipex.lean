/- Each Go function that the law reaches as a Lean function, and that Go comes to just its answer; written by this session's xprint.py over the kit's printer. -/
import Derived.Test.YtonlhgkpmjefkaaXFnExactPipex0
import Derived.Test.YtonlhgkpmjefkaaXFnExactPipex1
import Derived.Test.YtonlhgkpmjefkaaXFnExactPipex2
import Derived.Test.YtonlhgkpmjefkaaXFnExactPipex3
import Derived.Test.YtonlhgkpmjefkaaXFnExactPipex4
import Derived.Test.YtonlhgkpmjefkaaXFnExactPipex5
import Derived.Test.YtonlhgkpmjefkaaXFnExactPipex6
import Derived.Test.YtonlhgkpmjefkaaXFnExactPipex7
import Derived.Test.YtonlhgkpmjefkaaXFnExactPipex8
namespace Go.Proofs.Ytonlhgkpmjefkaa.XFnExactPipe
open Go.RowKit Go.Proofs.YtonlhgkpmjefkaaW.PrintWords Go.Proofs.YtonlhgkpmjefkaaW.PrintLast Go.Proofs.YtonlhgkpmjefkaaW.PrintMore
attribute [local go_sem] max2_int min2_int max_two min_two max_three min_three max_four min_four   -- for this text's walks alone
set_option linter.unusedVariables false
set_option linter.unusedSimpArgs false

end Go.Proofs.Ytonlhgkpmjefkaa.XFnExactPipe
