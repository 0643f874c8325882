/- Proved: the pure half of the law FnExactLineWord: the printed functions answer true, for every input. No condition. -/
import Derived.Test.YtggnpbcekiojdaaPFnExactLineWordx1
import Derived.Test.YtggnpbcekiojdaaBase
import Derived.Test.YtggnpbcekiojdaaLine
namespace Go.Proofs.Ytggnpbcekiojdaa.Pure
open Go.RowKit Go.Proofs.Ytggnpbcekiojdaa.PFnExactLineWord Go.Proofs.YtggnpbcekiojdaaW.PrintWords Go.Proofs.YtggnpbcekiojdaaW.PrintLast Go.Proofs.YtggnpbcekiojdaaW.PrintMore Go.Proofs.Ytggnpbcekiojdaa.Base
set_option linter.unusedVariables false
set_option linter.unusedSimpArgs false

/-! spec.l00In -/
theorem in_eq (a b c : Int) : spec_l00In.f a b c = some (decide (b ≤ a ∧ a ≤ c)) := by
  unfold spec_l00In.f
  by_cases h : b ≤ a
  · rw [if_pos (show a ≥ b from h)]; simp [h]
  · rw [if_neg (show ¬ a ≥ b from h)]; simp [h]

/-! spec.l01Floor -/
theorem tdiv_mul_range {a b m : Int} (hb : 0 < b) (h1 : -m ≤ a) (h2 : a ≤ m) : -m ≤ a.tdiv b * b ∧ a.tdiv b * b ≤ m := by
  have h := ediv_bounds (a := a) hb
  rcases tdiv_cases (a := a) hb with ⟨e, _, h3⟩ | ⟨e, _, h3, h4⟩
  · rw [e]
    rcases h3 with h3 | h3
    · have : 0 ≤ a / b * b := Int.mul_nonneg (Int.ediv_nonneg h3 (by omega)) (by omega)
      omega
    · have := Int.emod_add_mul_ediv a b
      have h5 : b * (a / b) = (a / b) * b := Int.mul_comm _ _
      omega
  · have h5 : (a / b + 1) * b = a / b * b + b := by rw [Int.add_mul, Int.one_mul]
    have h6 : a / b < 0 := Int.ediv_neg_of_neg_of_pos h3 hb
    have h7 : (a / b + 1) * b ≤ 0 * b := Int.mul_le_mul_of_nonneg_right (by omega) (by omega)
    rw [e]
    omega
theorem sfloor_eq {a b : Int} (hb : 0 < b) (h1 : -9223372036854775807 ≤ a) (h2 : a ≤ 9223372036854775807) : spec_l01Floor.f a b = some (a / b) := by
  have r1 := tdiv_range hb h1 h2 (by omega)
  have r2 := tdiv_mul_range hb h1 h2
  have hf := floorA (a := a) hb
  have e1 : wrap64 (a.tdiv b) = a.tdiv b := w64 (by omega) (by omega)
  have e2 : wrap64 (a.tdiv b * b) = a.tdiv b * b := w64 (by omega) (by omega)
  unfold spec_l01Floor.f
  rw [if_neg (by omega), e1, e2]
  by_cases h : a.tdiv b * b > a
  · rw [if_pos h] at hf
    rw [if_pos h, w64 (by omega) (by omega), hf]
  · rw [if_neg h] at hf
    rw [if_neg h, hf]

/-! spec.l07Line -/
theorem sline_l0 (a den shift : Int) (n : Nat) (ha : 0 ≤ a ∧ a ≤ den) (hd : 1 ≤ den ∧ den ≤ 1000) (hs : 0 ≤ shift ∧ shift ≤ den - 1) (hn : n ≤ 999999) : ∀ (d i : Nat), d + i = n → Ev (fun k => spec_l07Line.l0 k a den shift (n : Int) (LINE a den shift i) i) (strOfNums (LINE a den shift n)) := by
  intro d
  induction d with
  | zero =>
    intro i hi
    apply Ev.succ
    simp only [spec_l07Line.l0, if_neg (show ¬ (i : Int) < (n : Int) by omega)]
    rw [show i = n by omega]
    exact Ev.now _
  | succ d ih =>
    intro i hi
    have p0 := line_small (i := i) ha hd (by omega)
    have p1 := line_small (i := i + 1) ha hd (by omega)
    rw [Int.natCast_succ] at p1
    apply Ev.succ
    simp only [spec_l07Line.l0, if_pos (show (i : Int) < (n : Int) by omega), w64 (show (-9223372036854775808) ≤ (i : Int) + 1 by omega) (by omega), w64 (show (-9223372036854775808) ≤ ((i : Int) + 1) * a by omega) (by omega), w64 (show (-9223372036854775808) ≤ (i : Int) * a by omega) (by omega), w64 (show (-9223372036854775808) ≤ ((i : Int) + 1) * a + shift by omega) (by omega), w64 (show (-9223372036854775808) ≤ (i : Int) * a + shift by omega) (by omega)]
    simp only [sfloor_eq (show 0 < den by omega) (show -9223372036854775807 ≤ ((i : Int) + 1) * a + shift by omega) (by omega), sfloor_eq (show 0 < den by omega) (show -9223372036854775807 ≤ (i : Int) * a + shift by omega) (by omega), Option.bind_some, LINE_length, if_pos (show i < 140737488355328 by omega)]
    have ih1 := ih (i + 1) (by omega)
    rw [LINE_succ] at ih1
    by_cases h : (((i : Int) + 1) * a + shift) / den > ((i : Int) * a + shift) / den
    · simp only [if_pos h]
      have e : lineAt a den shift i = 98 := by unfold lineAt; rw [if_pos h]
      rw [e] at ih1
      exact ih1
    · simp only [if_neg h]
      have e : lineAt a den shift i = 97 := by unfold lineAt; rw [if_neg h]
      rw [e] at ih1
      exact ih1
theorem l07Line_ev (a den shift : Int) (n : Nat) (ha : 0 ≤ a ∧ a ≤ den) (hd : 1 ≤ den ∧ den ≤ 1000) (hs : 0 ≤ shift ∧ shift ≤ den - 1) (hn : n ≤ 999999) : Ev (fun k => spec_l07Line.f k a den shift (n : Int)) (strOfNums (LINE a den shift n)) := by
  unfold spec_l07Line.f
  simpa [LINE] using sline_l0 a den shift n ha hd hs hn n 0 (by omega)

/-! spec.LineWord -/
/-- The word of a line, and whether the numbers are right. -/
def LW (a den shift n : Int) : ByteArray × Bool := if (1 ≤ den ∧ den ≤ 1000) ∧ (0 ≤ a ∧ a ≤ den) ∧ (0 ≤ shift ∧ shift ≤ den - 1) ∧ (0 ≤ n ∧ n ≤ 120) then (strOfNums (LINE a den shift n.toNat), true) else ((⟨#[]⟩ : ByteArray), false)
theorem sLW_ev (a den shift n : Int) : Ev (fun k => spec_LineWord.f k a den shift n) (LW a den shift n) := by
  unfold spec_LineWord.f LW
  simp only [in_eq, Option.bind_some]
  by_cases h1 : 1 ≤ den ∧ den ≤ 1000
  · rw [w64 (show (-9223372036854775808) ≤ den - 1 by omega) (by omega)]
    by_cases h2 : 0 ≤ a ∧ a ≤ den
    · by_cases h3 : 0 ≤ shift ∧ shift ≤ den - 1
      · by_cases h4 : 0 ≤ n ∧ n ≤ 120
        · simp only [decide_eq_true h1, decide_eq_true h2, decide_eq_true h3, decide_eq_true h4, if_true, if_pos (show (1 ≤ den ∧ den ≤ 1000) ∧ (0 ≤ a ∧ a ≤ den) ∧ (0 ≤ shift ∧ shift ≤ den - 1) ∧ (0 ≤ n ∧ n ≤ 120) from ⟨h1, h2, h3, h4⟩)]
          obtain ⟨m, rfl⟩ := Int.eq_ofNat_of_zero_le h4.1
          rw [Int.toNat_natCast]
          exact Ev.bind (l07Line_ev a den shift m h2 h1 h3 (by omega)) (Ev.now _)
        · simp only [decide_eq_true h1, decide_eq_true h2, decide_eq_true h3, decide_eq_false h4, if_true, Bool.false_eq_true, if_false, h4, and_false]
          exact Ev.now _
      · simp only [decide_eq_true h1, decide_eq_true h2, decide_eq_false h3, if_true, Bool.false_eq_true, if_false, h3, and_false, false_and]
        exact Ev.now _
    · simp only [decide_eq_true h1, decide_eq_false h2, if_true, Bool.false_eq_true, if_false, h2, and_false, false_and]
      exact Ev.now _
  · simp only [decide_eq_false h1, Bool.false_eq_true, if_false, h1, false_and]
    exact Ev.now _

/-! impl.within -/
theorem within_eq (a b c : Int) : impl_within.f a b c = some (decide (b ≤ a ∧ a ≤ c)) := by
  unfold impl_within.f
  by_cases h : b ≤ a
  · rw [if_pos h]; simp [h]
  · rw [if_neg h]; simp [h]

/-! impl.floor -/
theorem ifloor_eq {a b : Int} (hb : 0 < b) (h1 : -9223372036854775807 ≤ a) (h2 : a ≤ 9223372036854775807) : impl_floor.f a b = some (a / b) := by
  have r1 := tdiv_range hb h1 h2 (by omega)
  have hf := floorB (a := a) hb
  have e1 : wrap64 (a.tdiv b) = a.tdiv b := w64 (by omega) (by omega)
  unfold impl_floor.f
  rw [if_neg (by omega), e1]
  by_cases h : a.tmod b < 0
  · rw [if_pos h] at hf
    rw [if_pos h, w64 (by omega) (by omega), hf]
  · rw [if_neg h] at hf
    rw [if_neg h, hf]

/-! impl.steps -/
theorem iline_l0 (a den shift : Int) (n : Nat) (ha : 0 ≤ a ∧ a ≤ den) (hd : 1 ≤ den ∧ den ≤ 1000) (hs : 0 ≤ shift ∧ shift ≤ den - 1) (hn : n ≤ 999999) : ∀ (d i : Nat), d + i = n → Ev (fun k => impl_steps.l0 k a den shift 98 97 (LINE a den shift i) (n : Int) i) (strOfNums (LINE a den shift n)) := by
  intro d
  induction d with
  | zero =>
    intro i hi
    apply Ev.succ
    simp only [impl_steps.l0, if_neg (show ¬ (i : Int) < (n : Int) by omega)]
    rw [show i = n by omega]
    exact Ev.now _
  | succ d ih =>
    intro i hi
    have p0 := line_small (i := i) ha hd (by omega)
    have p1 := line_small (i := i + 1) ha hd (by omega)
    rw [Int.natCast_succ] at p1
    apply Ev.succ
    simp only [impl_steps.l0, if_pos (show (i : Int) < (n : Int) by omega), w64 (show (-9223372036854775808) ≤ (i : Int) + 1 by omega) (by omega), w64 (show (-9223372036854775808) ≤ ((i : Int) + 1) * a by omega) (by omega), w64 (show (-9223372036854775808) ≤ (i : Int) * a by omega) (by omega), w64 (show (-9223372036854775808) ≤ ((i : Int) + 1) * a + shift by omega) (by omega), w64 (show (-9223372036854775808) ≤ (i : Int) * a + shift by omega) (by omega)]
    simp only [ifloor_eq (show 0 < den by omega) (show -9223372036854775807 ≤ ((i : Int) + 1) * a + shift by omega) (by omega), ifloor_eq (show 0 < den by omega) (show -9223372036854775807 ≤ (i : Int) * a + shift by omega) (by omega), Option.bind_some, LINE_length, if_pos (show i < 140737488355328 by omega)]
    have ih1 := ih (i + 1) (by omega)
    rw [LINE_succ] at ih1
    by_cases h : (((i : Int) + 1) * a + shift) / den > ((i : Int) * a + shift) / den
    · simp only [if_pos h]
      have e : lineAt a den shift i = 98 := by unfold lineAt; rw [if_pos h]
      rw [e] at ih1
      exact ih1
    · simp only [if_neg h]
      have e : lineAt a den shift i = 97 := by unfold lineAt; rw [if_neg h]
      rw [e] at ih1
      exact ih1
theorem steps_ev (a den shift : Int) (n : Nat) (ha : 0 ≤ a ∧ a ≤ den) (hd : 1 ≤ den ∧ den ≤ 1000) (hs : 0 ≤ shift ∧ shift ≤ den - 1) (hn : n ≤ 999999) : Ev (fun k => impl_steps.f k a den shift (n : Int) 98 97) (strOfNums (LINE a den shift n)) := by
  unfold impl_steps.f
  simpa [LINE] using iline_l0 a den shift n ha hd hs hn n 0 (by omega)

/-! impl.LineWord -/
theorem iLW_ev (a den shift n : Int) : Ev (fun k => impl_LineWord.f k a den shift n) (LW a den shift n) := by
  unfold impl_LineWord.f LW
  simp only [within_eq, Option.bind_some]
  by_cases h1 : 1 ≤ den ∧ den ≤ 1000
  · rw [w64 (show (-9223372036854775808) ≤ den - 1 by omega) (by omega)]
    by_cases h2 : 0 ≤ a ∧ a ≤ den
    · by_cases h3 : 0 ≤ shift ∧ shift ≤ den - 1
      · by_cases h4 : 0 ≤ n ∧ n ≤ 120
        · simp only [decide_eq_true h1, decide_eq_true h2, decide_eq_true h3, decide_eq_true h4, if_true, if_pos (show (1 ≤ den ∧ den ≤ 1000) ∧ (0 ≤ a ∧ a ≤ den) ∧ (0 ≤ shift ∧ shift ≤ den - 1) ∧ (0 ≤ n ∧ n ≤ 120) from ⟨h1, h2, h3, h4⟩)]
          obtain ⟨m, rfl⟩ := Int.eq_ofNat_of_zero_le h4.1
          rw [Int.toNat_natCast]
          exact Ev.bind (steps_ev a den shift m h2 h1 h3 (by omega)) (Ev.now _)
        · simp only [decide_eq_true h1, decide_eq_true h2, decide_eq_true h3, decide_eq_false h4, if_true, Bool.false_eq_true, if_false, h4, and_false]
          exact Ev.now _
      · simp only [decide_eq_true h1, decide_eq_true h2, decide_eq_false h3, if_true, Bool.false_eq_true, if_false, h3, and_false, false_and]
        exact Ev.now _
    · simp only [decide_eq_true h1, decide_eq_false h2, if_true, Bool.false_eq_true, if_false, h2, and_false, false_and]
      exact Ev.now _
  · simp only [decide_eq_false h1, Bool.false_eq_true, if_false, h1, false_and]
    exact Ev.now _

/-! the law -/
theorem FnExactLineWord : laws_FnExactLineWord.Pure := by
  intro a den shift n _ _ _ _
  apply Ev.rounds
  unfold laws_FnExactLineWord.f
  refine Ev.bind (sLW_ev a den shift n) (Ev.bind (iLW_ev a den shift n) ?_)
  simp only [if_true, bne_self_eq_false, Bool.false_eq_true, if_false]
  exact Ev.now _


end Go.Proofs.Ytggnpbcekiojdaa.Pure
