/- Plain lemmas: division rounded up. No condition. -/
import Derived.Test.YtlhpejabdmejbaaBase
namespace Go.Proofs.Ytlhpejabdmejbaa.Base
open Go.RowKit Go.Proofs.YtlhpejabdmejbaaW.PrintWords Go.Proofs.YtlhpejabdmejbaaW.PrintLast Go.Proofs.YtlhpejabdmejbaaW.PrintMore
set_option linter.unusedVariables false
set_option linter.unusedSimpArgs false
def ceilOf (a b : Int) : Int := -((-a) / b)
end Go.Proofs.Ytlhpejabdmejbaa.Base
