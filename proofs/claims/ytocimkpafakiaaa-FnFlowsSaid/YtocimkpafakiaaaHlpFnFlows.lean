/- What the law's own helpers answer (copies, comparisons, sizes), for all rows as each lemma says. -/
import Derived.Test.YtocimkpafakiaaaXFnFlowsx14
import Derived.Test.YtocimkpafakiaaaLib
namespace Go.Proofs.Ytocimkpafakiaaa.HlpFnFlows
open Go.RowKit Go.Proofs.Ytocimkpafakiaaa.XFnFlows Go.Proofs.Ytocimkpafakiaaa.Lib Go.Proofs.YtocimkpafakiaaaW.PrintWords Go.Proofs.YtocimkpafakiaaaW.PrintLast Go.Proofs.YtocimkpafakiaaaW.PrintMore
set_option linter.unusedVariables false
set_option linter.unusedSimpArgs false



end Go.Proofs.Ytocimkpafakiaaa.HlpFnFlows
