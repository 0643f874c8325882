/- Proved: the pure half of the law FnBalancedCount: the printed functions answer true, for every input. No condition. -/
import Derived.Test.YtggnpbcekiojdaaPFnBalancedCountx2
import Derived.Test.YtggnpbcekiojdaaBase
import Derived.Test.YtggnpbcekiojdaaGcd
namespace Go.Proofs.Ytggnpbcekiojdaa.Pure
open Go.RowKit Go.Proofs.Ytggnpbcekiojdaa.PFnBalancedCount Go.Proofs.YtggnpbcekiojdaaW.PrintWords Go.Proofs.YtggnpbcekiojdaaW.PrintLast Go.Proofs.YtggnpbcekiojdaaW.PrintMore Go.Proofs.Ytggnpbcekiojdaa.Base
set_option linter.unusedVariables false
set_option linter.unusedSimpArgs false

/-! impl.within -/
theorem within_eq (a b c : Int) : impl_within.f a b c = some (decide (b ≤ a ∧ a ≤ c)) := by
  unfold impl_within.f
  by_cases h : b ≤ a
  · rw [if_pos h]; simp [h]
  · rw [if_neg h]; simp [h]

/-! impl.divisor -/
theorem div_l0 : ∀ (n : Nat) (a b : Int), b.natAbs ≤ n → a.natAbs ≤ 9223372036854775807 → b.natAbs ≤ 9223372036854775807 → Ev (fun k => impl_divisor.l0 k a b) (Int.gcd a b : Int) := by
  intro n
  induction n with
  | zero =>
    intro a b hn ha hb
    have e : b = 0 := by omega
    subst e
    apply Ev.succ
    simp only [impl_divisor.l0, if_true]
    refine (Ev.now _).to ?_
    rw [w64 (by omega) (by omega), Int.gcd_zero_right]
    unfold mx
    split <;> omega
  | succ n ih =>
    intro a b hn ha hb
    by_cases hz : b = 0
    · subst hz
      apply Ev.succ
      simp only [impl_divisor.l0, if_true]
      refine (Ev.now _).to ?_
      rw [w64 (by omega) (by omega), Int.gcd_zero_right]
      unfold mx
      split <;> omega
    · apply Ev.succ
      simp only [impl_divisor.l0, if_neg hz]
      have := tmod_abs_lt (a := a) hz
      exact (ih b (a.tmod b) (by omega) hb (by omega)).to (by rw [gcd_step])
theorem divisor_ev (a b : Int) (ha : a.natAbs ≤ 9223372036854775807) (hb : b.natAbs ≤ 9223372036854775807) : Ev (fun k => impl_divisor.f k a b) (Int.gcd a b : Int) := div_l0 b.natAbs a b (Nat.le_refl _) ha hb

/-! spec.l00Min -/
theorem min_eq (a b : Int) : spec_l00Min.f a b = some (min a b) := by
  unfold spec_l00Min.f
  by_cases h : a < b
  · rw [if_pos h, Int.min_eq_left (by omega)]
  · rw [if_neg h, Int.min_eq_right (by omega)]

/-! spec.l00Max -/
theorem max_eq (a b : Int) : spec_l00Max.f a b = some (max a b) := by
  unfold spec_l00Max.f
  by_cases h : a > b
  · rw [if_pos h, Int.max_eq_left (by omega)]
  · rw [if_neg h, Int.max_eq_right (by omega)]

/-! the law -/
theorem bc_all : ∀ n : Fin 10, ((impl_CountBalanced.f 6000 (n.val : Int)).bind fun bt => laws_FnBalancedCount.l0 6000 (n.val : Int) bt.1 bt.2 0 0) = some true := by decide +kernel
theorem b10At_10 (l : List Int) (hw : ∀ x ∈ l, (Lit.int .u8 x).wf = true) : ∃ n : Nat, n < 10 ∧ laws_b10At.f l 0 10 = some (n : Int) := by
  unfold laws_b10At.f
  rw [if_neg (by omega)]
  by_cases h : (0 : Int) < l.length
  · have hx := hw l[0] (List.getElem_mem (by omega))
    simp only [Lit.wf, IntKind.min, IntKind.max, IntKind.signed, IntKind.bits, Bool.and_eq_true, decide_eq_true_eq] at hx
    have hx0 : 0 ≤ l[0] ∧ l[0] ≤ 255 := by simpa using hx
    have e : rd l 0 = l[0] := by have := rd_get (xs := l) (i := 0) (by omega); simpa using this
    rw [if_pos h, if_pos (by omega), if_neg (by omega), e, w64 (by omega) (by omega), Int.tmod_eq_emod_of_nonneg (by omega)]
    exact ⟨(l[0] % 10).toNat, by omega, by congr 1; omega⟩
  · rw [if_neg h, if_neg (by omega)]
    exact ⟨1, by omega, by decide +kernel⟩
theorem FnBalancedCount : laws_FnBalancedCount.Pure := by
  intro l0 l1 h1 h2 h3 h4 h5 h6
  refine ⟨6000, ?_⟩
  unfold laws_FnBalancedCount.f laws_b10Long.f
  by_cases ha : (l0.length : Int) > 1048576
  · simp only [if_pos ha, Option.bind_some, if_true]
  · simp only [if_neg ha, Option.bind_some]
    by_cases hb : (l1.length : Int) > 1048576
    · simp only [decide_eq_true hb, if_true]
    · simp only [decide_eq_false hb, Bool.false_eq_true, if_false]
      obtain ⟨n, hn, e⟩ := b10At_10 l0 h3
      rw [e, Option.bind_some]
      exact bc_all ⟨n, hn⟩


end Go.Proofs.Ytggnpbcekiojdaa.Pure
