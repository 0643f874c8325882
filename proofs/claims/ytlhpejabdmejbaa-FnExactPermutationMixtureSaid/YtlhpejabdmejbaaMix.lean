/- Plain lemmas: weighted sums down a column, and values over a denominator. No condition. -/
import Derived.Test.YtlhpejabdmejbaaBase
import Derived.Test.YtlhpejabdmejbaaLists
import Derived.Test.YtlhpejabdmejbaaPsum
namespace Go.Proofs.Ytlhpejabdmejbaa.Base
open Go.RowKit Go.Proofs.YtlhpejabdmejbaaW.PrintWords Go.Proofs.YtlhpejabdmejbaaW.PrintLast Go.Proofs.YtlhpejabdmejbaaW.PrintMore
set_option linter.unusedVariables false
set_option linter.unusedSimpArgs false
theorem mrd {xs : List Int} {i : Nat} : rd xs (i : Int) = xs.getD i 0 := by
  unfold rd; simp
def mcol (W : List Int) (L : List (List Int)) (i k : Nat) : Int := ((List.range i).map fun q => W.getD q 0 * (L.getD q []).getD k 0).sum
def MB (W : List Int) (L : List (List Int)) : Prop := W.length = L.length ∧ (∀ w ∈ W, 1 ≤ w) ∧ (∀ i, i ≤ W.length → psum W i ≤ 1000000) ∧ ∀ i, i < L.length → ∀ x ∈ L.getD i [], -1000000 ≤ x ∧ x ≤ 1000000
def mtot (W : List Int) (L : List (List Int)) : List Int := (List.range (L.headD []).length).map (mcol W L L.length)
def VV (den : Int) (vs : List Int) : Bool := decide (1 ≤ den ∧ den ≤ 1000) && (decide (vs.length ≤ 40) && vs.all fun x => decide (-1000000 ≤ x ∧ x ≤ 1000000))
def gfold (g : Int) (l : List Int) : Int := l.foldl (fun g x => (Int.gcd g x : Int)) g
def mnum (g : Int) (xs : List Int) : List Int := xs.map fun x => wrap64 (Int.tdiv x g)
def mres (t : Int) (xs : List Int) (g : Int) : Int × List Int × Bool := if VV (wrap64 (Int.tdiv t g)) (mnum g xs) = true then (wrap64 (Int.tdiv t g), mnum g xs, true) else (0, [], false)
end Go.Proofs.Ytlhpejabdmejbaa.Base
