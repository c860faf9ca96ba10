/- Each Go function that the law reaches as a Lean function, and that Go comes to just its answer; written by this session's xprint.py over the kit's printer. -/
import Derived.Test.YtonlhgkpmjefkaaXFnPipeBodiesx0
import Derived.Test.YtonlhgkpmjefkaaXFnPipeBodiesx1
import Derived.Test.YtonlhgkpmjefkaaXFnPipeBodiesx2
import Derived.Test.YtonlhgkpmjefkaaXFnPipeBodiesx3
import Derived.Test.YtonlhgkpmjefkaaXFnPipeBodiesx4
import Derived.Test.YtonlhgkpmjefkaaXFnPipeBodiesx5
import Derived.Test.YtonlhgkpmjefkaaXFnPipeBodiesx6
import Derived.Test.YtonlhgkpmjefkaaXFnPipeBodiesx7
import Derived.Test.YtonlhgkpmjefkaaXFnPipeBodiesx8
import Derived.Test.YtonlhgkpmjefkaaXFnPipeBodiesx9
import Derived.Test.YtonlhgkpmjefkaaXFnPipeBodiesx10
namespace Go.Proofs.Ytonlhgkpmjefkaa.XFnPipeBodies
open Go.RowKit Go.Proofs.YtonlhgkpmjefkaaW.PrintWords Go.Proofs.YtonlhgkpmjefkaaW.PrintLast Go.Proofs.YtonlhgkpmjefkaaW.PrintMore
attribute [local go_sem] max2_int min2_int max_two min_two max_three min_three max_four min_four   -- for this text's walks alone
set_option linter.unusedVariables false
set_option linter.unusedSimpArgs false

end Go.Proofs.Ytonlhgkpmjefkaa.XFnPipeBodies
