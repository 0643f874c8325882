/- Plain lemmas: division rounded up. No condition. -/
import Derived.Test.YtdcglkdgepdnpaaBase
namespace Go.Proofs.Ytdcglkdgepdnpaa.Base
open Go.RowKit Go.Proofs.YtdcglkdgepdnpaaW.PrintWords Go.Proofs.YtdcglkdgepdnpaaW.PrintLast Go.Proofs.YtdcglkdgepdnpaaW.PrintMore
set_option linter.unusedVariables false
set_option linter.unusedSimpArgs false
def ceilOf (a b : Int) : Int := -((-a) / b)
theorem ceil_range {a b m : Int} (hb : 0 < b) (h1 : -m ≤ a) (h2 : a ≤ m) (hm : 0 ≤ m) : -m ≤ (-a) / b ∧ (-a) / b ≤ m := by
  constructor
  · rw [Int.le_ediv_iff_mul_le hb]
    have : m * 1 ≤ m * b := Int.mul_le_mul_of_nonneg_left (by omega) hm
    have e : -m * b = -(m * b) := Int.neg_mul m b
    omega
  · by_cases h : 0 ≤ -a
    · exact Int.le_trans (Int.ediv_le_self b h) (by omega)
    · have := Int.ediv_neg_of_neg_of_pos (show -a < 0 by omega) hb
      omega
theorem ceil_le {a b k : Int} (hb : 0 < b) : ceilOf a b ≤ k ↔ a ≤ k * b := by
  unfold ceilOf
  have h := Int.le_ediv_iff_mul_le (a := -k) (b := -a) hb
  have e : -k * b = -(k * b) := Int.neg_mul k b
  omega
end Go.Proofs.Ytdcglkdgepdnpaa.Base
