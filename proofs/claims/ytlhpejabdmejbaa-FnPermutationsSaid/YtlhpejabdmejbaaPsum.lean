/- Plain lemmas: sums of beginnings of a list. No condition. -/
import Derived.Test.YtlhpejabdmejbaaBase
import Derived.Test.YtlhpejabdmejbaaLists
namespace Go.Proofs.Ytlhpejabdmejbaa.Base
open Go.RowKit Go.Proofs.YtlhpejabdmejbaaW.PrintWords Go.Proofs.YtlhpejabdmejbaaW.PrintLast Go.Proofs.YtlhpejabdmejbaaW.PrintMore
set_option linter.unusedVariables false
set_option linter.unusedSimpArgs false
def psum (ws : List Int) (i : Nat) : Int := (ws.take i).sum
theorem psum_zero (ws : List Int) : psum ws 0 = 0 := by simp [psum]
theorem psum_all (ws : List Int) : psum ws ws.length = ws.sum := by simp [psum]
theorem psum_succ (ws : List Int) (i : Nat) (h : i < ws.length) : psum ws (i + 1) = psum ws i + ws.getD i 0 := by
  unfold psum
  rw [List.take_succ_eq_append_getElem h, List.sum_append]
  simp [List.getD_eq_getElem?_getD, h]
theorem psum_mono (ws : List Int) (hw : ∀ w ∈ ws, 1 ≤ w) : ∀ (d i : Nat), i + d ≤ ws.length → psum ws i ≤ psum ws (i + d)
  | 0, i, _ => Int.le_refl _
  | d + 1, i, h => by
    have h1 := psum_mono ws hw d i (by omega)
    have h2 := psum_succ ws (i + d) (by omega)
    have h3 := hw (ws.getD (i + d) 0) (by simp [List.getD_eq_getElem?_getD, show i + d < ws.length by omega])
    rw [show i + (d + 1) = i + d + 1 by omega, h2]
    omega
/-- The first place behind which the sum is more than t. -/
theorem psum_first (ws : List Int) (t : Int) : ∀ (d i : Nat), i + d = ws.length → (∀ j, j < i → psum ws (j + 1) ≤ t) → ∃ i0, i ≤ i0 ∧ i0 ≤ ws.length ∧ (∀ j, j < i0 → psum ws (j + 1) ≤ t) ∧ (i0 = ws.length ∨ t < psum ws (i0 + 1))
  | 0, i, h, hj => ⟨i, Nat.le_refl _, by omega, hj, .inl (by omega)⟩
  | d + 1, i, h, hj => by
    by_cases c : t < psum ws (i + 1)
    · exact ⟨i, Nat.le_refl _, by omega, hj, .inr c⟩
    · obtain ⟨i0, h1, h2, h3, h4⟩ := psum_first ws t d (i + 1) (by omega) (fun j hj' => by
        by_cases e : j = i
        · subst e; omega
        · exact hj j (by omega))
      exact ⟨i0, by omega, h2, h3, h4⟩

end Go.Proofs.Ytlhpejabdmejbaa.Base
