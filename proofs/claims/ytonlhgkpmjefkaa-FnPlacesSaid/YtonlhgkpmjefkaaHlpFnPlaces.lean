/- What the law's own helpers answer (copies, comparisons, sizes), for all rows as each lemma says. -/
import Derived.Test.YtonlhgkpmjefkaaXFnPlacesx13
import Derived.Test.YtonlhgkpmjefkaaLib
namespace Go.Proofs.Ytonlhgkpmjefkaa.HlpFnPlaces
open Go.RowKit Go.Proofs.Ytonlhgkpmjefkaa.XFnPlaces Go.Proofs.Ytonlhgkpmjefkaa.Lib Go.Proofs.YtonlhgkpmjefkaaW.PrintWords Go.Proofs.YtonlhgkpmjefkaaW.PrintLast Go.Proofs.YtonlhgkpmjefkaaW.PrintMore
set_option linter.unusedVariables false
set_option linter.unusedSimpArgs false



end Go.Proofs.Ytonlhgkpmjefkaa.HlpFnPlaces
