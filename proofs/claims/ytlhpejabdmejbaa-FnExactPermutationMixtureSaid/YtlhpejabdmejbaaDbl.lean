/- Plain: what doubly even rows are. No condition. -/
import Derived.Test.YtlhpejabdmejbaaBase
import Derived.Test.YtlhpejabdmejbaaLists
namespace Go.Proofs.Ytlhpejabdmejbaa.Base
open Go.RowKit Go.Proofs.YtlhpejabdmejbaaW.PrintWords Go.Proofs.YtlhpejabdmejbaaW.PrintLast Go.Proofs.YtlhpejabdmejbaaW.PrintMore
set_option linter.unusedVariables false
set_option linter.unusedSimpArgs false
def drow (l : List (List Int)) (i : Nat) : Bool := decide ((l.getD i []).length = l.length) && (l.getD i []).all fun x => decide (0 ≤ x ∧ x ≤ 1000)
def dC (l : List (List Int)) (k : Nat) : Int := wsum 0 (colOf l k)
def dR (l : List (List Int)) (k : Nat) : Int := wsum 0 (l.getD k [])
def DB (l : List (List Int)) : Bool := decide (1 ≤ (l.length : Int) ∧ (l.length : Int) ≤ 6) && ((List.range l.length).all (drow l) && ((List.range l.length).all (fun i => decide (dR l i = dC l 0) && decide (dC l i = dC l 0)) && decide (dC l 0 > 0)))
end Go.Proofs.Ytlhpejabdmejbaa.Base
