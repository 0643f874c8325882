/- Plain lemmas: sums up to 2^64, sets, and by how much rows have more left than columns take. No condition. -/
import Derived.Test.YtdcglkdgepdnpaaTables
import Derived.Test.YtdcglkdgepdnpaaCeil
namespace Go.Proofs.Ytdcglkdgepdnpaa.Base
open Go.RowKit Go.Proofs.YtdcglkdgepdnpaaW.PrintWords Go.Proofs.YtdcglkdgepdnpaaW.PrintLast Go.Proofs.YtdcglkdgepdnpaaW.PrintMore
set_option linter.unusedVariables false
set_option linter.unusedSimpArgs false
def RSET (l : List Int) (hi : Int) : Bool := (List.range l.length).all fun i => decide (0 ≤ l.getD i 0 ∧ l.getD i 0 ≤ hi) && decide (i = 0 ∨ l.getD (i - 1) 0 < l.getD i 0)
def LEFT (F : List (List Int)) (a : List Int) (x : Int) : Int := a.getD x.toNat 0 - wsum 0 (F.getD x.toNat [])
def OPEN1 (F G : List (List Int)) (os : List Int) (x : Int) (k : Nat) : Int := if (k : Int) ∈ os then 0 else (G.getD x.toNat []).getD k 0 - (F.getD x.toNat []).getD k 0
def OPEN (F G : List (List Int)) (os : List Int) (m : Nat) (x : Int) : Int := ((List.range m).map (OPEN1 F G os x)).sum
def TAKE (F : List (List Int)) (b : List Int) (y : Int) : Int := b.getD y.toNat 0 - ((List.range F.length).map fun i => (F.getD i []).getD y.toNat 0).sum
end Go.Proofs.Ytdcglkdgepdnpaa.Base
