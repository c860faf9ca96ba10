/- Each Go function that the law reaches as a Lean function, and that Go comes to just its answer; written by this session's xprint.py over the kit's printer. -/
import Derived.Test.YtonlhgkpmjefkaaXFnExactStartsx0
import Derived.Test.YtonlhgkpmjefkaaXFnExactStartsx1
import Derived.Test.YtonlhgkpmjefkaaXFnExactStartsx2
import Derived.Test.YtonlhgkpmjefkaaXFnExactStartsx3
import Derived.Test.YtonlhgkpmjefkaaXFnExactStartsx4
import Derived.Test.YtonlhgkpmjefkaaXFnExactStartsx5
import Derived.Test.YtonlhgkpmjefkaaXFnExactStartsx6
import Derived.Test.YtonlhgkpmjefkaaXFnExactStartsx7
import Derived.Test.YtonlhgkpmjefkaaXFnExactStartsx8
import Derived.Test.YtonlhgkpmjefkaaXFnExactStartsx9
import Derived.Test.YtonlhgkpmjefkaaXFnExactStartsx10
namespace Go.Proofs.Ytonlhgkpmjefkaa.XFnExactStarts
open Go.RowKit Go.Proofs.YtonlhgkpmjefkaaW.PrintWords Go.Proofs.YtonlhgkpmjefkaaW.PrintLast Go.Proofs.YtonlhgkpmjefkaaW.PrintMore
attribute [local go_sem] max2_int min2_int max_two min_two max_three min_three max_four min_four   -- for this text's walks alone
set_option linter.unusedVariables false
set_option linter.unusedSimpArgs false

end Go.Proofs.Ytonlhgkpmjefkaa.XFnExactStarts
