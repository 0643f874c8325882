/- Proved: the pure half of the law FnExactContinuedOf: the printed functions answer true, for every input. No condition. -/
import Derived.Test.YtggnpbcekiojdaaPFnExactContinuedOfx2
import Derived.Test.YtggnpbcekiojdaaBase
import Derived.Test.YtggnpbcekiojdaaMarks
namespace Go.Proofs.Ytggnpbcekiojdaa.Pure
open Go.RowKit Go.Proofs.Ytggnpbcekiojdaa.PFnExactContinuedOf Go.Proofs.YtggnpbcekiojdaaW.PrintWords Go.Proofs.YtggnpbcekiojdaaW.PrintLast Go.Proofs.YtggnpbcekiojdaaW.PrintMore Go.Proofs.Ytggnpbcekiojdaa.Base
set_option linter.unusedVariables false
set_option linter.unusedSimpArgs false

/-! spec.l00In -/
theorem in_eq (a b c : Int) : spec_l00In.f a b c = some (decide (b ≤ a ∧ a ≤ c)) := by
  unfold spec_l00In.f
  by_cases h : b ≤ a
  · rw [if_pos (show a ≥ b from h)]; simp [h]
  · rw [if_neg (show ¬ a ≥ b from h)]; simp [h]

/-! impl.within -/
theorem within_eq (a b c : Int) : impl_within.f a b c = some (decide (b ≤ a ∧ a ≤ c)) := by
  unfold impl_within.f
  by_cases h : b ≤ a
  · rw [if_pos h]; simp [h]
  · rw [if_neg h]; simp [h]

/-! laws.eqInt64S -/
theorem eq_l0 (a b : List Int) (hl : a.length = b.length) (hm : a.length ≤ 9223372036854775806) : ∀ (d i : Nat), d + i = a.length → Ev (fun k => laws_eqInt64S.l0 k a b i) (decide (a.drop i = b.drop i)) := by
  intro d
  induction d with
  | zero =>
    intro i hd
    apply Ev.succ
    simp only [laws_eqInt64S.l0, if_neg (show ¬ (i : Int) < (a.length : Int) by omega)]
    rw [List.drop_of_length_le (by omega), List.drop_of_length_le (by omega)]
    exact Ev.now _
  | succ d ih =>
    intro i hd
    have hi : i < a.length := by omega
    have hi' : i < b.length := by omega
    apply Ev.succ
    simp only [laws_eqInt64S.l0, if_pos (show (i : Int) < (a.length : Int) by omega), if_pos (show 0 ≤ (i : Int) by omega), if_pos (show (i : Int) < (b.length : Int) by omega), rd_get hi, rd_get hi', w64 (show (-9223372036854775808) ≤ (i : Int) + 1 by omega) (by omega)]
    rw [List.drop_eq_getElem_cons hi, List.drop_eq_getElem_cons hi']
    by_cases h : a[i] = b[i]
    · simp only [if_pos h]
      exact (ih (i + 1) (by omega)).to (by simp only [List.cons.injEq, h, true_and])
    · simp only [if_neg h]
      exact (Ev.now _).to (by simp only [List.cons.injEq, h, false_and, decide_false])
theorem eqInt64S_ev (a b : List Int) (hm : a.length ≤ 9223372036854775806) : Ev (fun k => laws_eqInt64S.f k a b) (decide (a = b)) := by
  unfold laws_eqInt64S.f
  by_cases h : a.length = b.length
  · simp only [if_pos (show (a.length : Int) = (b.length : Int) by omega)]
    simpa using eq_l0 a b h hm a.length 0 (by omega)
  · simp only [if_neg (show ¬ (a.length : Int) = (b.length : Int) by omega)]
    exact (Ev.now _).to (by symm; simp; intro e; exact h (by rw [e]))

/-! laws.markInt64S -/
theorem mark_l0 (l : List Int) (m : Int) (hl : l.length ≤ 140737488355328) (h0 : 0 ≤ m) (h1 : m ≤ 4611686018427387904) : ∀ (d i : Nat), d + i = l.length → Ev (fun k => laws_markInt64S.l0 k (MARKS m i ++ l.drop i) (m + (i : Int)) i) (m + (l.length : Int), MARKS m l.length) := by
  intro d
  induction d with
  | zero =>
    intro i hd
    apply Ev.succ
    simp only [laws_markInt64S.l0, if_neg (show ¬ (i : Int) < ((MARKS m i ++ l.drop i).length : Int) by simp [MARKS_length]; omega)]
    rw [show i = l.length by omega, List.drop_length, List.append_nil]
    exact Ev.now _
  | succ d ih =>
    intro i hd
    have hi : i < l.length := by omega
    apply Ev.succ
    simp only [laws_markInt64S.l0, if_pos (show (i : Int) < ((MARKS m i ++ l.drop i).length : Int) by simp [MARKS_length]; omega), if_pos (show 0 ≤ (i : Int) by omega), Int.toNat_natCast, marks_step l m i hi, w64 (show (-9223372036854775808) ≤ (i : Int) + 1 by omega) (by omega), w64 (show (-9223372036854775808) ≤ m + (i : Int) + 1 by omega) (by omega)]
    have := ih (i + 1) (by omega)
    rw [Int.natCast_succ, ← Int.add_assoc] at this
    exact this
theorem markInt64S_ev (l : List Int) (m : Int) (hl : l.length ≤ 140737488355328) (h0 : 0 ≤ m) (h1 : m ≤ 4611686018427387904) : Ev (fun k => laws_markInt64S.f k l m) (m + (l.length : Int), MARKS m l.length) := by
  have := mark_l0 l m hl h0 h1 l.length 0 (by omega)
  simpa [laws_markInt64S.f, MARKS] using this

/-! laws.heldInt64S -/
theorem held_l0 (m : Int) (n : Nat) (hl : n ≤ 140737488355328) (h0 : 0 ≤ m) (h1 : m ≤ 4611686018427387904) : ∀ (d i : Nat), d + i = n → Ev (fun k => laws_heldInt64S.l0 k (MARKS m n) (m + (i : Int)) i) (m + (n : Int)) := by
  intro d
  induction d with
  | zero =>
    intro i hd
    apply Ev.succ
    simp only [laws_heldInt64S.l0, MARKS_length, if_neg (show ¬ (i : Int) < (n : Int) by omega)]
    rw [show i = n by omega]
    exact Ev.now _
  | succ d ih =>
    intro i hd
    have hi : i < (MARKS m n).length := by rw [MARKS_length]; omega
    apply Ev.succ
    simp only [laws_heldInt64S.l0, MARKS_length, if_pos (show (i : Int) < (n : Int) by omega), if_pos (show 0 ≤ (i : Int) by omega), rd_get hi, MARKS_get m n i hi, if_true, w64 (show (-9223372036854775808) ≤ (i : Int) + 1 by omega) (by omega), w64 (show (-9223372036854775808) ≤ m + (i : Int) + 1 by omega) (by omega)]
    have := ih (i + 1) (by omega)
    rw [Int.natCast_succ, ← Int.add_assoc] at this
    exact this
theorem heldInt64S_ev (m : Int) (n : Nat) (hl : n ≤ 140737488355328) (h0 : 0 ≤ m) (h1 : m ≤ 4611686018427387904) : Ev (fun k => laws_heldInt64S.f k (MARKS m n) m) (m + (n : Int)) := by
  have := held_l0 m n hl h0 h1 n 0 (by omega)
  simpa [laws_heldInt64S.f] using this

/-! the law -/
theorem cf_both : ∀ (n : Nat) (a b : Int) (acc : List Int), b.toNat ≤ n → 0 ≤ a → 0 ≤ b → acc.length + n ≤ 2000000000 → ∃ r : List Int, Ev (fun k => spec_ContinuedOf.l0 k a b acc) (r, true) ∧ Ev (fun k => impl_ContinuedOf.l0 k a b acc) (r, true) ∧ r.length ≤ acc.length + n := by
  intro n
  induction n with
  | zero =>
    intro a b acc hb h0 h1 hl
    have e : b = 0 := by omega
    subst e
    refine ⟨acc, ?_, ?_, by omega⟩
    · apply Ev.succ
      simp only [spec_ContinuedOf.l0, if_neg (show ¬ (0 : Int) > 0 by omega)]
      exact Ev.now _
    · apply Ev.succ
      simp only [impl_ContinuedOf.l0, if_true]
      exact Ev.now _
  | succ n ih =>
    intro a b acc hb h0 h1 hl
    by_cases hz : b = 0
    · subst hz
      refine ⟨acc, ?_, ?_, by omega⟩
      · apply Ev.succ
        simp only [spec_ContinuedOf.l0, if_neg (show ¬ (0 : Int) > 0 by omega)]
        exact Ev.now _
      · apply Ev.succ
        simp only [impl_ContinuedOf.l0, if_true]
        exact Ev.now _
    · have hp : 0 < b := by omega
      have m0 : 0 ≤ a.tmod b := Int.tmod_nonneg b h0
      have m1 : a.tmod b < b := Int.tmod_lt_of_pos a hp
      obtain ⟨r, hr, hr2, hr3⟩ := ih b (a.tmod b) (acc ++ [wrap64 (a.tdiv b)]) (by omega) h1 m0 (by simp; omega)
      refine ⟨r, ?_, ?_, by simp at hr3; omega⟩
      · apply Ev.succ
        simp only [spec_ContinuedOf.l0, if_pos (show b > 0 from hp), if_neg hz, if_pos (show acc.length < 17592186044416 by omega)]
        exact hr
      · apply Ev.succ
        simp only [impl_ContinuedOf.l0, if_neg hz, if_pos (show acc.length < 17592186044416 by omega)]
        exact hr2
theorem cf_top (a b : Int) : ∃ r : List Int × Bool, Ev (fun k => spec_ContinuedOf.f k a b) r ∧ Ev (fun k => impl_ContinuedOf.f k a b) r ∧ r.1.length ≤ 1000000000 := by
  unfold spec_ContinuedOf.f impl_ContinuedOf.f
  simp only [in_eq, within_eq, Option.bind_some]
  by_cases h1 : 0 ≤ a ∧ a ≤ 1000000000
  · simp only [decide_eq_true h1, if_true]
    by_cases h2 : 1 ≤ b ∧ b ≤ 1000000000
    · obtain ⟨r, hr, hr2, hr3⟩ := cf_both b.toNat a b [] (by omega) h1.1 (by omega) (by simp; omega)
      refine ⟨(r, true), ?_, ?_, by simp at hr3 ⊢; omega⟩
      · apply Ev.succ
        simp only [spec_ContinuedOf.j0, decide_eq_true h2, Bool.not_true, Bool.false_eq_true, if_false]
        exact hr
      · apply Ev.succ
        simp only [impl_ContinuedOf.j0, decide_eq_true h2, Bool.not_true, Bool.false_eq_true, if_false]
        exact hr2
    · refine ⟨([], false), ?_, ?_, by simp⟩
      · apply Ev.succ
        simp only [spec_ContinuedOf.j0, decide_eq_false h2, Bool.not_false, if_true]
        exact Ev.now _
      · apply Ev.succ
        simp only [impl_ContinuedOf.j0, decide_eq_false h2, Bool.not_false, if_true]
        exact Ev.now _
  · simp only [decide_eq_false h1, Bool.false_eq_true, if_false]
    refine ⟨([], false), ?_, ?_, by simp⟩
    · apply Ev.succ
      simp only [spec_ContinuedOf.j0, if_true]
      exact Ev.now _
    · apply Ev.succ
      simp only [impl_ContinuedOf.j0, if_true]
      exact Ev.now _
theorem FnExactContinuedOf : laws_FnExactContinuedOf.Pure := by
  intro a b _ _
  apply Ev.rounds
  unfold laws_FnExactContinuedOf.f
  obtain ⟨r, hs, hi, hl⟩ := cf_top a b
  have he := eqInt64S_ev r.1 r.1 (by omega)
  have hh := heldInt64S_ev 1 r.1.length (by omega) (by omega) (by omega)
  refine Ev.bind hs (Ev.bind hi (Ev.bind he ?_))
  simp only [decide_true, if_true, bne_self_eq_false]
  apply Ev.succ
  simp only [laws_FnExactContinuedOf.j0, Bool.false_eq_true, if_false]
  refine Ev.bind (markInt64S_ev r.1 1 (by omega) (by omega) (by omega)) (Ev.bind hh ?_)
  simp only [if_neg (show ¬ (1 + (r.1.length : Int)) < 0 by omega), if_true]
  refine Ev.bind hi (Ev.bind he ?_)
  simp only [decide_true, if_true, bne_self_eq_false]
  apply Ev.succ
  simp only [laws_FnExactContinuedOf.j1, Bool.false_eq_true, if_false]
  refine Ev.bind hh ?_
  simp only [if_neg (show ¬ (1 + (r.1.length : Int)) < 0 by omega), if_true]
  exact Ev.now _


end Go.Proofs.Ytggnpbcekiojdaa.Pure
