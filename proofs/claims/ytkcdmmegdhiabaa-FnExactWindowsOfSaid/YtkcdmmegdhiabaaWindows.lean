/- Plain definitions and lemmas: windows. No condition. -/
import Derived.Test.YtkcdmmegdhiabaaTime
import Derived.Test.YtkcdmmegdhiabaaCeil
namespace Go.Proofs.Ytkcdmmegdhiabaa.Base
open Go.RowKit Go.Proofs.YtkcdmmegdhiabaaW.PrintWords Go.Proofs.YtkcdmmegdhiabaaW.PrintLast Go.Proofs.YtkcdmmegdhiabaaW.PrintMore
set_option linter.unusedVariables false
set_option linter.unusedSimpArgs false
def early1 (D B d : Int) (j : Nat) : Int := max 1 (ceilOf (D * ((j : Int) + 1) - B) d)
def late1 (D B d : Int) (j : Nat) : Int := min D ((B + D * (j : Int)) / d + 1)
def earlyW (D B d : Int) : List Int := (List.range d.toNat).map (early1 D B d)
def lateW (D B d : Int) : List Int := (List.range d.toNat).map (late1 D B d)
def okB (ds : List Int) (B : Int) : Bool := VD ds && decide (0 ≤ B ∧ B ≤ ds.sum * ds.sum - 1)
def WIN (ds : List Int) (B : Int) : List (List Int) × List (List Int) × Bool := if okB ds B then (ds.map (earlyW ds.sum B), ds.map (lateW ds.sum B), true) else ([], [], false)
theorem vd_sum {ds : List Int} (h : VD ds = true) : wsum 0 ds = ds.sum ∧ 1 ≤ ds.sum ∧ ds.sum ≤ 240 ∧ ∀ d ∈ ds, d ≤ ds.sum := by
  obtain ⟨h1, h2, h3⟩ := VD_facts h
  have e := wsum_eq 40 ds 0 (fun x hx => by have := h3 x hx; omega) (by omega) (by omega) (by omega)
  have hb := sum_bounds 40 ds (fun x hx => by have := h3 x hx; omega)
  have key : ∀ (l : List Int), (∀ n ∈ l, 1 ≤ n ∧ n ≤ 40) → (l.length : Int) ≤ l.sum ∧ ∀ d ∈ l, d ≤ l.sum := by
    intro l
    induction l with
    | nil => intro _; simp
    | cons x l ih =>
      intro hl
      have hx := hl x List.mem_cons_self
      have := ih (fun n hn => hl n (List.mem_cons_of_mem _ hn))
      rw [List.sum_cons, List.length_cons]
      refine ⟨by omega, fun d hd => ?_⟩
      rcases List.mem_cons.1 hd with rfl | hd
      · omega
      · have := this.2 d hd; omega
  have := key ds h3
  refine ⟨by omega, by omega, by omega, this.2⟩
theorem mul_range {a b A B : Int} (ha : 0 ≤ a) (ha2 : a ≤ A) (hb : 0 ≤ b) (hb2 : b ≤ B) : 0 ≤ a * b ∧ a * b ≤ A * B :=
  ⟨Int.mul_nonneg ha hb, Int.le_trans (Int.mul_le_mul_of_nonneg_right ha2 hb) (Int.mul_le_mul_of_nonneg_left hb2 (by omega))⟩
end Go.Proofs.Ytkcdmmegdhiabaa.Base
