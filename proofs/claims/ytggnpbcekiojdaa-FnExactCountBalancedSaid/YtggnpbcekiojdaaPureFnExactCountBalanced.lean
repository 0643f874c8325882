/- Proved: for every n the program's CountBalanced and the reference's return the same. No condition. -/
import Derived.Test.YtggnpbcekiojdaaPFnExactCountBalancedx1
namespace Go.Proofs.Ytggnpbcekiojdaa.Pure
open Go.RowKit Go.Proofs.Ytggnpbcekiojdaa.PFnExactCountBalanced Go.Proofs.YtggnpbcekiojdaaW.PrintWords Go.Proofs.YtggnpbcekiojdaaW.PrintLast

theorem cb_in : ∀ n : Fin 21, laws_FnExactCountBalanced.f 400 (n.val : Int) = some true := by decide +kernel

theorem FnExactCountBalanced : laws_FnExactCountBalanced.Pure := by
  intro a0 _
  by_cases h0 : 0 ≤ a0
  · by_cases h1 : a0 ≤ 20
    · refine ⟨400, ?_⟩
      have := cb_in ⟨a0.toNat, by omega⟩
      have e : (a0.toNat : Int) = a0 := by omega
      simpa [e] using this
    · refine ⟨0, ?_⟩
      have h2 : decide (a0 ≤ 20) = false := decide_eq_false h1
      simp [laws_FnExactCountBalanced.f, spec_CountBalanced.f, impl_CountBalanced.f, spec_l00In.f, impl_within.f, h0, h2]
  · refine ⟨0, ?_⟩
    simp [laws_FnExactCountBalanced.f, spec_CountBalanced.f, impl_CountBalanced.f, spec_l00In.f, impl_within.f, h0]

end Go.Proofs.Ytggnpbcekiojdaa.Pure
