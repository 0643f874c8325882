/- Plain lemmas: what a valid mixture is, and the weight of a pair. No condition. -/
import Derived.Test.YtlhpejabdmejbaaBase
namespace Go.Proofs.Ytlhpejabdmejbaa.Base
open Go.RowKit Go.Proofs.YtlhpejabdmejbaaW.PrintWords Go.Proofs.YtlhpejabdmejbaaW.PrintLast Go.Proofs.YtlhpejabdmejbaaW.PrintMore
set_option linter.unusedVariables false
set_option linter.unusedSimpArgs false
def mxRow (ls : List (List Int)) (i : Nat) : Bool := decide ((ls.getD i []).length = (ls.headD []).length) && (((ls.getD i []).all fun x => decide (-1000000 ≤ x ∧ x ≤ 1000000)) && (List.range i).all fun j => !decide (ls.getD j [] = ls.getD i []))
def mxW (ws : List Int) : Bool := ws.all fun w => decide (1 ≤ w ∧ w ≤ 1000000)
def VM (ws : List Int) (ls : List (List Int)) : Bool := decide (1 ≤ (ls.length : Int) ∧ (ls.length : Int) ≤ 64) && (decide (ws.length = ls.length) && (decide ((ls.headD []).length ≤ 40) && (mxW ws && ((List.range ls.length).all (mxRow ls) && decide (wsum 0 ws ≤ 1000000)))))
def pwStep (ws : List Int) (ls : List (List Int)) (i a j b acc : Int) (m : Nat) : Int := if rd (ls.getD m []) i = a ∧ rd (ls.getD m []) j = b then wrap64 (acc + ws.getD m 0) else acc
def PW (ws : List Int) (ls : List (List Int)) (i a j b : Int) : Nat → Nat → Int → Int
  | 0, _, acc => acc
  | d + 1, m, acc => PW ws ls i a j b d (m + 1) (pwStep ws ls i a j b acc m)
def SPW (ws : List Int) (ls : List (List Int)) (i a j b : Int) : Int × Bool := if VM ws ls && (decide (0 ≤ i ∧ i ≤ ((ls.headD []).length : Int) - 1) && decide (0 ≤ j ∧ j ≤ ((ls.headD []).length : Int) - 1)) then (PW ws ls i a j b ls.length 0 0, true) else (0, false)
end Go.Proofs.Ytlhpejabdmejbaa.Base
