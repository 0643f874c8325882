/- Plain lemmas: roundings of values. No condition. -/
import Derived.Test.YtmjabeddommiaaaBase
import Derived.Test.YtmjabeddommiaaaLists
import Derived.Test.YtmjabeddommiaaaCeil
namespace Go.Proofs.Ytmjabeddommiaaa.Base
open Go.RowKit Go.Proofs.YtmjabeddommiaaaW.PrintWords Go.Proofs.YtmjabeddommiaaaW.PrintLast Go.Proofs.YtmjabeddommiaaaW.PrintMore
set_option linter.unusedVariables false
set_option linter.unusedSimpArgs false
def rnd1 (den : Int) (nums l : List Int) (i : Nat) : Bool := decide (l.getD i 0 = nums.getD i 0 / den) || decide (l.getD i 0 = ceilOf (nums.getD i 0) den)
def RND (den : Int) (nums l : List Int) : Bool := decide (l.length = nums.length) && (List.range l.length).all (rnd1 den nums l)
end Go.Proofs.Ytmjabeddommiaaa.Base
