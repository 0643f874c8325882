/- Plain lemmas: roundings of values. No condition. -/
import Derived.Test.YtlhpejabdmejbaaBase
import Derived.Test.YtlhpejabdmejbaaLists
import Derived.Test.YtlhpejabdmejbaaCeil
namespace Go.Proofs.Ytlhpejabdmejbaa.Base
open Go.RowKit Go.Proofs.YtlhpejabdmejbaaW.PrintWords Go.Proofs.YtlhpejabdmejbaaW.PrintLast Go.Proofs.YtlhpejabdmejbaaW.PrintMore
set_option linter.unusedVariables false
set_option linter.unusedSimpArgs false
def rnd1 (den : Int) (nums l : List Int) (i : Nat) : Bool := decide (l.getD i 0 = nums.getD i 0 / den) || decide (l.getD i 0 = ceilOf (nums.getD i 0) den)
def RND (den : Int) (nums l : List Int) : Bool := decide (l.length = nums.length) && (List.range l.length).all (rnd1 den nums l)
end Go.Proofs.Ytlhpejabdmejbaa.Base
