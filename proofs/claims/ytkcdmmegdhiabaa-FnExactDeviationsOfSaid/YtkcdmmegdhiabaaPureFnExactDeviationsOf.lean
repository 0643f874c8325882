/- Proved: the pure half of the law FnExactDeviationsOf: the printed functions answer true, for every input. No condition. -/
import Derived.Test.YtkcdmmegdhiabaaPFnExactDeviationsOfx5
import Derived.Test.YtkcdmmegdhiabaaBase
import Derived.Test.YtkcdmmegdhiabaaLists
import Derived.Test.YtkcdmmegdhiabaaMarks
import Derived.Test.YtkcdmmegdhiabaaMarksS
import Derived.Test.YtkcdmmegdhiabaaTime
namespace Go.Proofs.Ytkcdmmegdhiabaa.Pure
open Go.RowKit Go.Proofs.Ytkcdmmegdhiabaa.PFnExactDeviationsOf Go.Proofs.YtkcdmmegdhiabaaW.PrintWords Go.Proofs.YtkcdmmegdhiabaaW.PrintLast Go.Proofs.YtkcdmmegdhiabaaW.PrintMore Go.Proofs.Ytkcdmmegdhiabaa.Base
set_option linter.unusedVariables false
set_option linter.unusedSimpArgs false

/-! laws.toInt64S -/
theorem to_step (l : List Int) (i : Nat) (hi : i < l.length) : (l.take i ++ List.replicate (l.length - i) 0).set i l[i] = l.take (i + 1) ++ List.replicate (l.length - (i + 1)) 0 := by
  rw [show l.length - i = (l.length - (i + 1)) + 1 by omega, List.replicate_succ, List.set_append, if_neg (by simp; omega), List.length_take, Nat.min_eq_left (by omega), Nat.sub_self, List.set_cons_zero, List.take_succ_eq_append_getElem hi, List.append_assoc]
  rfl
theorem to_l0 (l : List Int) (hl : l.length ≤ 35184372088832) : ∀ (d i : Nat), d + i = l.length → Ev (fun k => laws_toInt64S.l0 k l (l.take i ++ List.replicate (l.length - i) 0) i) l := by
  intro d
  induction d with
  | zero =>
    intro i hd
    apply Ev.succ
    simp only [laws_toInt64S.l0, if_neg (show ¬ (i : Int) < (l.length : Int) by omega)]
    rw [List.take_of_length_le (by omega), show l.length - i = 0 by omega]
    simpa using Ev.now l
  | succ d ih =>
    intro i hd
    have hi : i < l.length := by omega
    apply Ev.succ
    simp only [laws_toInt64S.l0, if_pos (show (i : Int) < (l.length : Int) by omega), if_pos (show 0 ≤ (i : Int) by omega), if_pos (show (i : Int) < ((l.take i ++ List.replicate (l.length - i) (0 : Int)).length : Int) by simp; omega), rd_get hi, w64 (show (-9223372036854775808) ≤ (i : Int) + 1 by omega) (by omega), Int.toNat_natCast, to_step l i hi]
    exact ih (i + 1) (by omega)
theorem toInt64S_ev (l : List Int) (hl : l.length ≤ 35184372088832) : Ev (fun k => laws_toInt64S.f k l) l := by
  simp only [laws_toInt64S.f, if_pos (show 0 ≤ (l.length : Int) by omega), Int.toNat_natCast, if_pos hl]
  have := to_l0 l hl l.length 0 (by omega)
  simpa using this

/-! laws.eqInt64S -/
theorem eq_l0 (a b : List Int) (hl : a.length = b.length) (hm : a.length ≤ 9223372036854775806) : ∀ (d i : Nat), d + i = a.length → Ev (fun k => laws_eqInt64S.l0 k a b i) (decide (a.drop i = b.drop i)) := by
  intro d
  induction d with
  | zero =>
    intro i hd
    apply Ev.succ
    simp only [laws_eqInt64S.l0, if_neg (show ¬ (i : Int) < (a.length : Int) by omega)]
    rw [List.drop_of_length_le (by omega), List.drop_of_length_le (by omega)]
    exact Ev.now _
  | succ d ih =>
    intro i hd
    have hi : i < a.length := by omega
    have hi' : i < b.length := by omega
    apply Ev.succ
    simp only [laws_eqInt64S.l0, if_pos (show (i : Int) < (a.length : Int) by omega), if_pos (show 0 ≤ (i : Int) by omega), if_pos (show (i : Int) < (b.length : Int) by omega), rd_get hi, rd_get hi', w64 (show (-9223372036854775808) ≤ (i : Int) + 1 by omega) (by omega)]
    rw [List.drop_eq_getElem_cons hi, List.drop_eq_getElem_cons hi']
    by_cases h : a[i] = b[i]
    · simp only [if_pos h]
      exact (ih (i + 1) (by omega)).to (by simp only [List.cons.injEq, h, true_and])
    · simp only [if_neg h]
      exact (Ev.now _).to (by simp only [List.cons.injEq, h, false_and, decide_false])
theorem eqInt64S_ev (a b : List Int) (hm : a.length ≤ 9223372036854775806) : Ev (fun k => laws_eqInt64S.f k a b) (decide (a = b)) := by
  unfold laws_eqInt64S.f
  by_cases h : a.length = b.length
  · simp only [if_pos (show (a.length : Int) = (b.length : Int) by omega)]
    simpa using eq_l0 a b h hm a.length 0 (by omega)
  · simp only [if_neg (show ¬ (a.length : Int) = (b.length : Int) by omega)]
    exact (Ev.now _).to (by symm; simp; intro e; exact h (by rw [e]))

/-! laws.eqInt64SS -/
theorem rdl_get3 {xs : List (List Int)} {i : Nat} (h : i < xs.length) : rd_L1 xs (i : Int) = xs[i] := by
  unfold rd_L1; exact getD_get h
theorem eqss_l0 (a b : List (List Int)) (hl : a.length = b.length) (hm : a.length ≤ 9223372036854775806) (hr : ∀ r ∈ a, r.length ≤ 9223372036854775806) : ∀ (d i : Nat), d + i = a.length → Ev (fun k => laws_eqInt64SS.l0 k a b i) (decide (a.drop i = b.drop i)) := by
  intro d
  induction d with
  | zero =>
    intro i hd
    apply Ev.succ
    simp only [laws_eqInt64SS.l0, if_neg (show ¬ (i : Int) < (a.length : Int) by omega)]
    rw [List.drop_of_length_le (by omega), List.drop_of_length_le (by omega)]
    exact Ev.now _
  | succ d ih =>
    intro i hd
    have hi : i < a.length := by omega
    have hi' : i < b.length := by omega
    apply Ev.succ
    simp only [laws_eqInt64SS.l0, if_pos (show (i : Int) < (a.length : Int) by omega), if_pos (show 0 ≤ (i : Int) by omega), if_pos (show (i : Int) < (b.length : Int) by omega), rdl_get3 hi, rdl_get3 hi', w64 (show (-9223372036854775808) ≤ (i : Int) + 1 by omega) (by omega)]
    rw [List.drop_eq_getElem_cons hi, List.drop_eq_getElem_cons hi']
    refine Ev.bind (eqInt64S_ev a[i] b[i] (hr _ (List.getElem_mem hi))) ?_
    by_cases h : a[i] = b[i]
    · simp only [decide_eq_true h, if_true]
      exact (ih (i + 1) (by omega)).to (by simp only [List.cons.injEq, h, true_and])
    · simp only [decide_eq_false h, Bool.false_eq_true, if_false]
      exact (Ev.now _).to (by simp only [List.cons.injEq, h, false_and, decide_false])
theorem eqInt64SS_ev (a b : List (List Int)) (hm : a.length ≤ 9223372036854775806) (hr : ∀ r ∈ a, r.length ≤ 9223372036854775806) : Ev (fun k => laws_eqInt64SS.f k a b) (decide (a = b)) := by
  unfold laws_eqInt64SS.f
  by_cases h : a.length = b.length
  · simp only [if_pos (show (a.length : Int) = (b.length : Int) by omega)]
    simpa using eqss_l0 a b h hm hr a.length 0 (by omega)
  · simp only [if_neg (show ¬ (a.length : Int) = (b.length : Int) by omega)]
    exact (Ev.now _).to (by symm; simp; intro e; exact h (by rw [e]))

/-! laws.markInt64S -/
theorem mark_l0 (l : List Int) (m : Int) (hl : l.length ≤ 140737488355328) (h0 : 0 ≤ m) (h1 : m ≤ 4611686018427387904) : ∀ (d i : Nat), d + i = l.length → Ev (fun k => laws_markInt64S.l0 k (MARKS m i ++ l.drop i) (m + (i : Int)) i) (m + (l.length : Int), MARKS m l.length) := by
  intro d
  induction d with
  | zero =>
    intro i hd
    apply Ev.succ
    simp only [laws_markInt64S.l0, if_neg (show ¬ (i : Int) < ((MARKS m i ++ l.drop i).length : Int) by simp [MARKS_length]; omega)]
    rw [show i = l.length by omega, List.drop_length, List.append_nil]
    exact Ev.now _
  | succ d ih =>
    intro i hd
    have hi : i < l.length := by omega
    apply Ev.succ
    simp only [laws_markInt64S.l0, if_pos (show (i : Int) < ((MARKS m i ++ l.drop i).length : Int) by simp [MARKS_length]; omega), if_pos (show 0 ≤ (i : Int) by omega), Int.toNat_natCast, marks_step l m i hi, w64 (show (-9223372036854775808) ≤ (i : Int) + 1 by omega) (by omega), w64 (show (-9223372036854775808) ≤ m + (i : Int) + 1 by omega) (by omega)]
    have := ih (i + 1) (by omega)
    rw [Int.natCast_succ, ← Int.add_assoc] at this
    exact this
theorem markInt64S_ev (l : List Int) (m : Int) (hl : l.length ≤ 140737488355328) (h0 : 0 ≤ m) (h1 : m ≤ 4611686018427387904) : Ev (fun k => laws_markInt64S.f k l m) (m + (l.length : Int), MARKS m l.length) := by
  have := mark_l0 l m hl h0 h1 l.length 0 (by omega)
  simpa [laws_markInt64S.f, MARKS] using this

/-! laws.markInt64SS -/
theorem rdl_getM {xs : List (List Int)} {i : Nat} : rd_L1 xs (i : Int) = xs.getD i [] := by
  unfold rd_L1; simp
theorem mssk_l0 (l : List (List Int)) (m : Int) (hl : l.length ≤ 1048576) (hr : ∀ r ∈ l, r.length ≤ 1048576) (h0 : 0 ≤ m) (h1 : m ≤ 100000000000000) : ∀ (d i : Nat), d + i = l.length → Ev (fun k => laws_markInt64SS.l0 k (MSS m (l.take i) ++ l.drop i) (mtot_ m (l.take i)) i) (mtot_ m l, MSS m l) := by
  have hb : ((1048576 : Nat) : Int) * (l.length : Int) ≤ 1099511627776 := by
    have := Int.mul_le_mul_of_nonneg_left (show (l.length : Int) ≤ 1048576 by omega) (show (0 : Int) ≤ ((1048576 : Nat) : Int) by omega)
    omega
  intro d
  induction d with
  | zero =>
    intro i hd
    apply Ev.succ
    simp only [laws_markInt64SS.l0, if_neg (show ¬ (i : Int) < ((MSS m (l.take i) ++ l.drop i).length : Int) by rw [List.length_append, MSS_length]; simp; omega)]
    rw [List.take_of_length_le (by omega), List.drop_of_length_le (by omega), List.append_nil]
    exact Ev.now _
  | succ d ih =>
    intro i hd
    have hi : i < l.length := by omega
    have hm := hr (l.getD i []) (getD_mem hi)
    have hb2 := mtot_mono l m i 1048576 hr (by omega)
    apply Ev.succ
    simp only [laws_markInt64SS.l0, if_pos (show (i : Int) < ((MSS m (l.take i) ++ l.drop i).length : Int) by rw [List.length_append, MSS_length]; simp; omega), if_pos (show 0 ≤ (i : Int) by omega), rdl_getM, MSS_now l m i hi, inc hi (by omega), Int.toNat_natCast]
    refine Ev.bind (markInt64S_ev (l.getD i []) (mtot_ m (l.take i)) (by omega) (by omega) (by omega)) ?_
    simp only [MSS_step l m i hi]
    rw [← mtot_take l m i hi]
    exact ih (i + 1) (by omega)
theorem markSSk_ev (l : List (List Int)) (m : Int) (hl : l.length ≤ 1048576) (hr : ∀ r ∈ l, r.length ≤ 1048576) (h0 : 0 ≤ m) (h1 : m ≤ 100000000000000) : Ev (fun k => laws_markInt64SS.f k l m) (mtot_ m l, MSS m l) := by
  have := mssk_l0 l m hl hr h0 h1 l.length 0 (by omega)
  simpa [laws_markInt64SS.f, MSS, mtot_] using this

/-! laws.heldInt64S -/
theorem held_l0 (m : Int) (n : Nat) (hl : n ≤ 140737488355328) (h0 : 0 ≤ m) (h1 : m ≤ 4611686018427387904) : ∀ (d i : Nat), d + i = n → Ev (fun k => laws_heldInt64S.l0 k (MARKS m n) (m + (i : Int)) i) (m + (n : Int)) := by
  intro d
  induction d with
  | zero =>
    intro i hd
    apply Ev.succ
    simp only [laws_heldInt64S.l0, MARKS_length, if_neg (show ¬ (i : Int) < (n : Int) by omega)]
    rw [show i = n by omega]
    exact Ev.now _
  | succ d ih =>
    intro i hd
    have hi : i < (MARKS m n).length := by rw [MARKS_length]; omega
    apply Ev.succ
    simp only [laws_heldInt64S.l0, MARKS_length, if_pos (show (i : Int) < (n : Int) by omega), if_pos (show 0 ≤ (i : Int) by omega), rd_get hi, MARKS_get m n i hi, if_true, w64 (show (-9223372036854775808) ≤ (i : Int) + 1 by omega) (by omega), w64 (show (-9223372036854775808) ≤ m + (i : Int) + 1 by omega) (by omega)]
    have := ih (i + 1) (by omega)
    rw [Int.natCast_succ, ← Int.add_assoc] at this
    exact this
theorem heldInt64S_ev (m : Int) (n : Nat) (hl : n ≤ 140737488355328) (h0 : 0 ≤ m) (h1 : m ≤ 4611686018427387904) : Ev (fun k => laws_heldInt64S.f k (MARKS m n) m) (m + (n : Int)) := by
  have := held_l0 m n hl h0 h1 n 0 (by omega)
  simpa [laws_heldInt64S.f] using this

/-! laws.heldInt64SS -/
theorem rdl_getH {xs : List (List Int)} {i : Nat} : rd_L1 xs (i : Int) = xs.getD i [] := by
  unfold rd_L1; simp
theorem hss_l0 (l : List (List Int)) (m : Int) (hl : l.length ≤ 1048576) (hr : ∀ r ∈ l, r.length ≤ 1048576) (h0 : 0 ≤ m) (h1 : m ≤ 100000000000000) : ∀ (d i : Nat), d + i = l.length → Ev (fun k => laws_heldInt64SS.l0 k (MSS m l) (mtot_ m (l.take i)) i) (mtot_ m l) := by
  have hb : ((1048576 : Nat) : Int) * (l.length : Int) ≤ 1099511627776 := by
    have := Int.mul_le_mul_of_nonneg_left (show (l.length : Int) ≤ 1048576 by omega) (show (0 : Int) ≤ ((1048576 : Nat) : Int) by omega)
    omega
  intro d
  induction d with
  | zero =>
    intro i hd
    apply Ev.succ
    simp only [laws_heldInt64SS.l0, MSS_length, if_neg (show ¬ (i : Int) < (l.length : Int) by omega)]
    rw [List.take_of_length_le (by omega)]
    exact Ev.now _
  | succ d ih =>
    intro i hd
    have hi : i < l.length := by omega
    have hm := hr (l.getD i []) (getD_mem hi)
    have hb2 := mtot_mono l m i 1048576 hr (by omega)
    apply Ev.succ
    simp only [laws_heldInt64SS.l0, MSS_length, if_pos (show (i : Int) < (l.length : Int) by omega), if_pos (show 0 ≤ (i : Int) by omega), rdl_getH, MSS_get l m i hi, inc hi (by omega)]
    refine Ev.bind (heldInt64S_ev (mtot_ m (l.take i)) (l.getD i []).length (by omega) (by omega) (by omega)) ?_
    simp only [if_neg (show ¬ (mtot_ m (l.take i) + ((l.getD i []).length : Int)) < 0 by omega)]
    rw [← mtot_take l m i hi]
    exact ih (i + 1) (by omega)
theorem heldSS_ev (l : List (List Int)) (m : Int) (hl : l.length ≤ 1048576) (hr : ∀ r ∈ l, r.length ≤ 1048576) (h0 : 0 ≤ m) (h1 : m ≤ 100000000000000) : Ev (fun k => laws_heldInt64SS.f k (MSS m l) m) (mtot_ m l) := by
  have := hss_l0 l m hl hr h0 h1 l.length 0 (by omega)
  simpa [laws_heldInt64SS.f, mtot_] using this

/-! spec.l00In -/
theorem in_eq (a b c : Int) : spec_l00In.f a b c = some (decide (b ≤ a ∧ a ≤ c)) := by
  unfold spec_l00In.f
  by_cases h : b ≤ a
  · rw [if_pos (show a ≥ b from h)]; simp [h]
  · rw [if_neg (show ¬ a ≥ b from h)]; simp [h]

/-! spec.l00Min -/
theorem min_eq (a b : Int) : spec_l00Min.f a b = some (min a b) := by
  unfold spec_l00Min.f
  by_cases h : a < b
  · rw [if_pos h, Int.min_eq_left (by omega)]
  · rw [if_neg h, Int.min_eq_right (by omega)]

/-! spec.l08Is -/

theorem vd_l0 (l : List Int) (hl : l.length ≤ 6) : ∀ (d i : Nat) (s : Int), d + i = l.length → 1 ≤ s → s ≤ 5001 → Ev (fun k => spec_l08Is.l0 k l s i) (((l.drop i).all fun n => decide (1 ≤ n ∧ n ≤ 40)) && le5 ((l.drop i).foldl (fun s d => s * (d + 1)) s)) := by
  intro d
  induction d with
  | zero =>
    intro i s hd h1 h2
    apply Ev.succ
    simp only [spec_l08Is.l0, if_neg (show ¬ (i : Int) < (l.length : Int) by omega)]
    rw [List.drop_of_length_le (by omega)]
    exact (Ev.now _).to rfl
  | succ d ih =>
    intro i s hd h1 h2
    have hi : i < l.length := by omega
    apply Ev.succ
    simp only [spec_l08Is.l0, if_pos (show (i : Int) < (l.length : Int) by omega), if_pos (show 0 ≤ (i : Int) by omega), rd_get hi, in_eq, Option.bind_some, min_eq, w64 (show (-9223372036854775808) ≤ (i : Int) + 1 by omega) (by omega)]
    rw [List.drop_eq_getElem_cons hi]
    by_cases h : 1 ≤ l[i] ∧ l[i] ≤ 40
    · have p1 : s * 2 ≤ s * (l[i] + 1) := Int.mul_le_mul_of_nonneg_left (by omega) (by omega)
      have p2 : s * (l[i] + 1) ≤ s * 41 := Int.mul_le_mul_of_nonneg_left (by omega) (by omega)
      simp only [decide_eq_true h, if_true, w64 (show (-9223372036854775808) ≤ l[i] + 1 by omega) (by omega), w64 (show (-9223372036854775808) ≤ s * (l[i] + 1) by omega) (by omega), List.all_cons, Bool.true_and, List.foldl_cons]
      by_cases hm : s * (l[i] + 1) ≤ 5001
      · rw [Int.min_eq_left hm]
        exact ih (i + 1) _ (by omega) (by omega) hm
      · rw [Int.min_eq_right (by omega)]
        refine (ih (i + 1) 5001 (by omega) (by omega) (by omega)).to ?_
        by_cases ha : (l.drop (i + 1)).all (fun n => decide (1 ≤ n ∧ n ≤ 40)) = true
        · rw [ha, Bool.true_and, Bool.true_and]
          have ha' : ∀ n ∈ l.drop (i + 1), 1 ≤ n ∧ n ≤ 40 := by simpa using ha
          have g1 := foldl_ge _ 5001 (by omega) ha'
          have g2 := foldl_ge _ (s * (l[i] + 1)) (by omega) ha'
          rw [le5_no (by omega), le5_no (by omega)]
        · rw [Bool.eq_false_iff.2 ha, Bool.false_and, Bool.false_and]
    · simp only [decide_eq_false h, if_false, List.all_cons, Bool.false_and, Bool.false_eq_true]
      exact Ev.now _
theorem l08Is_ev (l : List Int) : Ev (fun k => spec_l08Is.f k l) (VD l) := by
  simp only [spec_l08Is.f, in_eq, Option.bind_some, VD]
  by_cases h : 1 ≤ (l.length : Int) ∧ (l.length : Int) ≤ 6
  · simp only [decide_eq_true h, if_true, Bool.true_and]
    have := vd_l0 l (by omega) l.length 0 1 (by omega) (by omega) (by omega)
    simpa using this
  · simp only [decide_eq_false h, if_false, Bool.false_and, Bool.false_eq_true]
    exact Ev.now _

/-! spec.l00Same -/
theorem same_l0 (a b : List Int) (hl : a.length = b.length) (hm : a.length ≤ 9223372036854775806) : ∀ (d i : Nat), d + i = a.length → Ev (fun k => spec_l00Same.l0 k a b i) (decide (a.drop i = b.drop i)) := by
  intro d
  induction d with
  | zero =>
    intro i hd
    apply Ev.succ
    simp only [spec_l00Same.l0, if_neg (show ¬ (i : Int) < (a.length : Int) by omega)]
    rw [List.drop_of_length_le (by omega), List.drop_of_length_le (by omega)]
    exact Ev.now _
  | succ d ih =>
    intro i hd
    have hi : i < a.length := by omega
    have hi' : i < b.length := by omega
    apply Ev.succ
    simp only [spec_l00Same.l0, if_pos (show (i : Int) < (a.length : Int) by omega), if_pos (show 0 ≤ (i : Int) by omega), if_pos (show (i : Int) < (b.length : Int) by omega), rd_get hi, rd_get hi', w64 (show (-9223372036854775808) ≤ (i : Int) + 1 by omega) (by omega)]
    rw [List.drop_eq_getElem_cons hi, List.drop_eq_getElem_cons hi']
    by_cases h : a[i] = b[i]
    · simp only [if_pos h]
      exact (ih (i + 1) (by omega)).to (by simp only [List.cons.injEq, h, true_and])
    · simp only [if_neg h]
      exact (Ev.now _).to (by simp only [List.cons.injEq, h, false_and, decide_false])
theorem same_ev (a b : List Int) (hm : a.length ≤ 9223372036854775806) : Ev (fun k => spec_l00Same.f k a b) (decide (a = b)) := by
  unfold spec_l00Same.f
  by_cases h : a.length = b.length
  · simp only [if_pos (show (a.length : Int) = (b.length : Int) by omega)]
    simpa using same_l0 a b h hm a.length 0 (by omega)
  · simp only [if_neg (show ¬ (a.length : Int) = (b.length : Int) by omega)]
    exact (Ev.now _).to (by symm; simp; intro e; exact h (by rw [e]))

/-! spec.l08Sequence -/
theorem seq_l0 (d l : List Int) (hd : d.length ≤ 6) (hl : l.length ≤ 1048576) : ∀ (e i : Nat) (c : List Int), e + i = l.length → c.length = d.length → Ev (fun k => spec_l08Sequence.l0 k d l c i) (((l.drop i).all fun n => decide (0 ≤ n ∧ n ≤ (d.length : Int) - 1)) && decide (tally c (l.drop i) = d)) := by
  intro e
  induction e with
  | zero =>
    intro i c he hc
    apply Ev.succ
    simp only [spec_l08Sequence.l0, if_neg (show ¬ (i : Int) < (l.length : Int) by omega)]
    rw [List.drop_of_length_le (by omega)]
    exact (Ev.bind (same_ev c d (by omega)) (Ev.now _)).to rfl
  | succ e ih =>
    intro i c he hc
    have hi : i < l.length := by omega
    apply Ev.succ
    simp only [spec_l08Sequence.l0, if_pos (show (i : Int) < (l.length : Int) by omega), if_pos (show 0 ≤ (i : Int) by omega), rd_get hi, in_eq, Option.bind_some, w64 (show (-9223372036854775808) ≤ (i : Int) + 1 by omega) (by omega), w64 (show (-9223372036854775808) ≤ (d.length : Int) - 1 by omega) (by omega)]
    rw [List.drop_eq_getElem_cons hi, List.all_cons, tally_cons]
    by_cases h : 0 ≤ l[i] ∧ l[i] ≤ (d.length : Int) - 1
    · simp only [decide_eq_true h, if_true, Bool.true_and, if_pos h.1, if_pos (show l[i] < (c.length : Int) by omega)]
      exact ih (i + 1) (bump c l[i]) (by omega) (by rw [bump_length, hc])
    · simp only [decide_eq_false h, Bool.false_eq_true, if_false, Bool.false_and]
      exact Ev.now _
theorem l08Sequence_ev (d l : List Int) (hd : d.length ≤ 6) (hl : l.length ≤ 1048576) : Ev (fun k => spec_l08Sequence.f k d l) ((l.all fun n => decide (0 ≤ n ∧ n ≤ (d.length : Int) - 1)) && decide (tally (List.replicate d.length 0) l = d)) := by
  simp only [spec_l08Sequence.f, if_pos (show 0 ≤ (d.length : Int) by omega), Int.toNat_natCast, if_pos (show d.length ≤ 35184372088832 by omega)]
  have := seq_l0 d l hd hl l.length 0 (List.replicate d.length 0) (by omega) (by simp)
  simpa using this

/-! spec.l01Sum -/
theorem ssum_l0 (l : List Int) (hl : l.length ≤ 9223372036854775806) : ∀ (d i : Nat) (acc : Int), d + i = l.length → Ev (fun k => spec_l01Sum.l0 k l acc i) (wsum acc (l.drop i)) := by
  intro d
  induction d with
  | zero =>
    intro i acc hd
    apply Ev.succ
    simp only [spec_l01Sum.l0, if_neg (show ¬ (i : Int) < (l.length : Int) by omega)]
    rw [List.drop_of_length_le (by omega)]
    exact Ev.now _
  | succ d ih =>
    intro i acc hd
    have hi : i < l.length := by omega
    apply Ev.succ
    simp only [spec_l01Sum.l0, if_pos (show (i : Int) < (l.length : Int) by omega), if_pos (show 0 ≤ (i : Int) by omega), rd_get hi, w64 (show (-9223372036854775808) ≤ (i : Int) + 1 by omega) (by omega)]
    rw [List.drop_eq_getElem_cons hi]
    exact ih (i + 1) _ (by omega)
theorem ssum_ev (l : List Int) (hl : l.length ≤ 9223372036854775806) : Ev (fun k => spec_l01Sum.f k l) (wsum 0 l) := by
  have := ssum_l0 l hl l.length 0 0 (by omega)
  simpa [spec_l01Sum.f] using this

/-! spec.l08Behind -/
theorem rd_getDB {xs : List Int} {i : Nat} : rd xs (i : Int) = xs.getD i 0 := by
  unfold rd; simp
theorem beh_l0 (d c : List Int) (T K : Int) (hc : c.length = d.length) (hd : d.length ≤ 1048576) : ∀ (e i : Nat), e + i = d.length → Ev (fun k => spec_l08Behind.l0 k d c T K ((List.range i).map (bown T K d c)) i) ((List.range d.length).map (bown T K d c)) := by
  intro e
  induction e with
  | zero =>
    intro i he
    apply Ev.succ
    simp only [spec_l08Behind.l0, if_neg (show ¬ (i : Int) < d.length by omega)]
    rw [show i = d.length by omega]
    exact Ev.now _
  | succ e ih =>
    intro i he
    have hi : i < d.length := by omega
    apply Ev.succ
    simp only [spec_l08Behind.l0, if_pos (show (i : Int) < d.length by omega), if_pos (show 0 ≤ (i : Int) by omega), if_pos (show (i : Int) < c.length by omega), if_pos (show ((List.range i).map (bown T K d c)).length < 17592186044416 by simp; omega), rd_getDB, inc hi (by omega)]
    have := ih (i + 1) (by omega)
    rw [List.range_succ, List.map_append] at this
    exact this
theorem behind_ev (d c : List Int) (hc : c.length = d.length) (hd : d.length ≤ 1048576) : Ev (fun k => spec_l08Behind.f k d c) (BEH d c) := by
  unfold spec_l08Behind.f
  exact Ev.bind (ssum_ev d (by omega)) (Ev.bind (ssum_ev c (by omega)) (beh_l0 d c _ _ hc hd d.length 0 (by omega)))

/-! spec.l08All -/
theorem rd_getDA {xs : List Int} {i : Nat} : rd xs (i : Int) = xs.getD i 0 := by
  unfold rd; simp
theorem all_l0 (d l : List Int) (hd : d.length ≤ 6) (hl : l.length ≤ 1048576) (hp : ∀ p ∈ l, 0 ≤ p ∧ p ≤ (d.length : Int) - 1) : ∀ (e i : Nat) (c : List Int) (acc : List (List Int)), e + i = l.length → c.length = d.length → acc.length = i → Ev (fun k => spec_l08All.l0 k d l c acc i) (acc ++ DEVS d c (l.drop i)) := by
  intro e
  induction e with
  | zero =>
    intro i c acc he hc ha
    apply Ev.succ
    simp only [spec_l08All.l0, if_neg (show ¬ (i : Int) < l.length by omega)]
    rw [List.drop_of_length_le (by omega)]
    simpa [DEVS] using Ev.now acc
  | succ e ih =>
    intro i c acc he hc ha
    have hi : i < l.length := by omega
    have hq := hp l[i] (List.getElem_mem hi)
    have hlen : (cnt c l[i]).length = d.length := by rw [cnt_length, hc]
    apply Ev.succ
    simp only [spec_l08All.l0, if_pos (show (i : Int) < l.length by omega), if_pos (show 0 ≤ (i : Int) by omega), rd_get hi, if_pos hq.1, if_pos (show l[i] < (c.length : Int) by omega), Option.bind_some]
    refine Ev.bind (behind_ev d (cnt c l[i]) hlen (by omega)) ?_
    simp only [if_pos (show acc.length < 5864062014805 by omega), inc hi (by omega)]
    have := ih (i + 1) (cnt c l[i]) (acc ++ [BEH d (cnt c l[i])]) (by omega) hlen (by simp [ha])
    rw [List.drop_eq_getElem_cons hi]
    exact this.to (by simp [DEVS])
theorem l08All_ev (d l : List Int) (hd : d.length ≤ 6) (hl : l.length ≤ 1048576) (hp : ∀ p ∈ l, 0 ≤ p ∧ p ≤ (d.length : Int) - 1) : Ev (fun k => spec_l08All.f k d l) (DEVS d (List.replicate d.length 0) l) := by
  unfold spec_l08All.f
  simp only [if_pos (show 0 ≤ (d.length : Int) by omega), Int.toNat_natCast, if_pos (show d.length ≤ 35184372088832 by omega)]
  have := all_l0 d l hd hl hp l.length 0 (List.replicate d.length 0) [] (by omega) (by simp) rfl
  simpa using this

/-! impl.sum -/
theorem isum_l0 (l : List Int) (hl : l.length ≤ 9223372036854775806) : ∀ (d i : Nat) (acc : Int), d + i = l.length → Ev (fun k => impl_sum.l0 k acc l (l.length : Int) i) (wsum acc (l.drop i)) := by
  intro d
  induction d with
  | zero =>
    intro i acc hd
    apply Ev.succ
    simp only [impl_sum.l0, if_neg (show ¬ (i : Int) < (l.length : Int) by omega)]
    rw [List.drop_of_length_le (by omega)]
    exact Ev.now _
  | succ d ih =>
    intro i acc hd
    have hi : i < l.length := by omega
    apply Ev.succ
    simp only [impl_sum.l0, if_pos (show (i : Int) < (l.length : Int) by omega), if_pos (show 0 ≤ (i : Int) by omega), rd_get hi, w64 (show (-9223372036854775808) ≤ (i : Int) + 1 by omega) (by omega)]
    rw [List.drop_eq_getElem_cons hi]
    exact ih (i + 1) _ (by omega)
theorem isum_ev (l : List Int) (hl : l.length ≤ 9223372036854775806) : Ev (fun k => impl_sum.f k l) (wsum 0 l) := by
  have := isum_l0 l hl l.length 0 0 (by omega)
  simpa [impl_sum.f] using this

/-! impl.within -/
theorem within_eq (a b c : Int) : impl_within.f a b c = some (decide (b ≤ a ∧ a ≤ c)) := by
  unfold impl_within.f
  by_cases h : b ≤ a
  · rw [if_pos h]; simp [h]
  · rw [if_neg h]; simp [h]

/-! impl.areWithin -/
theorem aw_l0 (l : List Int) (a b : Int) (hl : l.length ≤ 9223372036854775806) : ∀ (d i : Nat), d + i = l.length → ∃ r : Int, Ev (fun k => slices_IndexFunc_int64_int64_impl_areWithin_1.l0 k l (l.length : Int) i a b) r ∧ (decide (r ≥ 0) = !(l.drop i).all fun n => decide (a ≤ n ∧ n ≤ b)) := by
  intro d
  induction d with
  | zero =>
    intro i hd
    refine ⟨-1, ?_, ?_⟩
    · apply Ev.succ
      simp only [slices_IndexFunc_int64_int64_impl_areWithin_1.l0, if_neg (show ¬ (i : Int) < (l.length : Int) by omega)]
      exact Ev.now _
    · rw [List.drop_of_length_le (by omega)]; rfl
  | succ d ih =>
    intro i hd
    have hi : i < l.length := by omega
    obtain ⟨r, hr, he⟩ := ih (i + 1) (by omega)
    by_cases h : a ≤ l[i] ∧ l[i] ≤ b
    · refine ⟨r, ?_, ?_⟩
      · apply Ev.succ
        simp only [slices_IndexFunc_int64_int64_impl_areWithin_1.l0, if_pos (show (i : Int) < (l.length : Int) by omega), if_pos (show 0 ≤ (i : Int) by omega), rd_get hi, impl_areWithin_1.f, within_eq, decide_eq_true h, Option.bind_some, w64 (show (-9223372036854775808) ≤ (i : Int) + 1 by omega) (by omega)]
        simpa using hr
      · rw [he, List.drop_eq_getElem_cons hi, List.all_cons, decide_eq_true h, Bool.true_and]
    · refine ⟨i, ?_, ?_⟩
      · apply Ev.succ
        simp only [slices_IndexFunc_int64_int64_impl_areWithin_1.l0, if_pos (show (i : Int) < (l.length : Int) by omega), if_pos (show 0 ≤ (i : Int) by omega), rd_get hi, impl_areWithin_1.f, within_eq, decide_eq_false h, Option.bind_some]
        simpa using Ev.now _
      · rw [List.drop_eq_getElem_cons hi, List.all_cons, decide_eq_false h, Bool.false_and]; simp
theorem areWithin_ev (l : List Int) (a b : Int) (hl : l.length ≤ 9223372036854775806) : Ev (fun k => impl_areWithin.f k l a b) (l.all fun n => decide (a ≤ n ∧ n ≤ b)) := by
  obtain ⟨r, hr, he⟩ := aw_l0 l a b hl l.length 0 (by omega)
  unfold impl_areWithin.f
  simp only [slices_ContainsFunc_int64_int64_impl_areWithin_1.f, slices_IndexFunc_int64_int64_impl_areWithin_1.f]
  refine Ev.bind (Ev.bind hr (Ev.now _)) ?_
  refine (Ev.now _).to ?_
  rw [he, List.drop_zero, Bool.not_not]

/-! impl.ValidDemands -/
theorem foldl_lt (l : List Int) : ∀ (s m : Int), 0 < s → s ≤ m → (∀ n ∈ l, 1 ≤ n ∧ n ≤ 40) → l.foldl (fun s d => s * (d + 1)) s ≤ m * 41 ^ l.length := by
  induction l with
  | nil => intro s m _ h _; simpa using h
  | cons d l ih =>
    intro s m hs hm h
    have hd := h d List.mem_cons_self
    have h1 : s * 1 ≤ s * (d + 1) := Int.mul_le_mul_of_nonneg_left (by omega) (by omega)
    have h2 : s * (d + 1) ≤ s * 41 := Int.mul_le_mul_of_nonneg_left (by omega) (by omega)
    have := ih (s * (d + 1)) (m * 41) (by omega) (by omega) (fun n hn => h n (List.mem_cons_of_mem _ hn))
    rw [List.foldl_cons, List.length_cons, Int.pow_succ', ← Int.mul_assoc]
    exact this
theorem ivd_l0 (l : List Int) (hl : l.length ≤ 6) (ha : ∀ n ∈ l, 1 ≤ n ∧ n ≤ 40) : ∀ (d i : Nat) (s : Int), d + i = l.length → 1 ≤ s → s ≤ 41 ^ i → Ev (fun k => impl_ValidDemands.l0 k s l (l.length : Int) i) (le5 ((l.drop i).foldl (fun s d => s * (d + 1)) s)) := by
  intro d
  induction d with
  | zero =>
    intro i s hd h1 h2
    apply Ev.succ
    simp only [impl_ValidDemands.l0, if_neg (show ¬ (i : Int) < (l.length : Int) by omega)]
    rw [List.drop_of_length_le (by omega)]
    exact (Ev.now _).to rfl
  | succ d ih =>
    intro i s hd h1 h2
    have hi : i < l.length := by omega
    have hx := ha l[i] (List.getElem_mem hi)
    have p1 : s * 2 ≤ s * (l[i] + 1) := Int.mul_le_mul_of_nonneg_left (by omega) (by omega)
    have p2 : s * (l[i] + 1) ≤ s * 41 := Int.mul_le_mul_of_nonneg_left (by omega) (by omega)
    have p3 : s * 41 ≤ 41 ^ i * 41 := Int.mul_le_mul_of_nonneg_right h2 (by omega)
    have p4 : (41 : Int) ^ i * 41 ≤ 41 ^ 6 := by
      rw [← Int.pow_succ]
      have hle : i + 1 ≤ 6 := by omega
      have : ∀ j : Fin 7, (41 : Int) ^ j.val ≤ 41 ^ 6 := by decide
      exact this ⟨i + 1, by omega⟩
    have p5 : (41 : Int) ^ 6 = 4750104241 := by decide
    apply Ev.succ
    simp only [impl_ValidDemands.l0, if_pos (show (i : Int) < (l.length : Int) by omega), if_pos (show 0 ≤ (i : Int) by omega), rd_get hi, w64 (show (-9223372036854775808) ≤ (i : Int) + 1 by omega) (by omega), w64 (show (-9223372036854775808) ≤ l[i] + 1 by omega) (by omega), w64 (show (-9223372036854775808) ≤ s * (l[i] + 1) by omega) (by omega)]
    rw [List.drop_eq_getElem_cons hi, List.foldl_cons]
    exact ih (i + 1) _ (by omega) (by omega) (by rw [Int.pow_succ]; omega)
theorem iVD_ev (l : List Int) (hl : l.length ≤ 9223372036854775806) : Ev (fun k => impl_ValidDemands.f k l) (VD l) := by
  simp only [impl_ValidDemands.f, impl_size_int64.f, Option.bind_some, within_eq, VD]
  by_cases h : 1 ≤ (l.length : Int) ∧ (l.length : Int) ≤ 6
  · simp only [decide_eq_true h, if_true, Bool.true_and]
    refine Ev.bind (areWithin_ev l 1 40 hl) ?_
    cases ha : (l.all fun n => decide (1 ≤ n ∧ n ≤ 40)) with
    | true =>
      have ha' : ∀ n ∈ l, 1 ≤ n ∧ n ≤ 40 := by simpa using ha
      apply Ev.succ
      simp only [impl_ValidDemands.j0, Bool.not_true, if_neg (show ¬ (false = true) by decide), Bool.true_and]
      have := ivd_l0 l (by omega) ha' l.length 0 1 (by omega) (by omega) (by decide)
      simpa using this
    | false =>
      apply Ev.succ
      simp only [impl_ValidDemands.j0, Bool.not_false, if_true, Bool.false_and]
      exact Ev.now _
  · simp only [decide_eq_false h, if_neg (show ¬ (false = true) by decide), Bool.false_and]
    apply Ev.succ
    simp only [impl_ValidDemands.j0, if_true]
    exact Ev.now _

/-! slices.Equal   int64,int64  -/
theorem sleq_l0 (a b : List Int) (hl : a.length = b.length) (hm : a.length ≤ 9223372036854775806) : ∀ (d i : Nat), d + i = a.length → Ev (fun k => slices_Equal_int64_int64.l0 k a b (a.length : Int) i) (decide (a.drop i = b.drop i)) := by
  intro d
  induction d with
  | zero =>
    intro i hd
    apply Ev.succ
    simp only [slices_Equal_int64_int64.l0, if_neg (show ¬ (i : Int) < (a.length : Int) by omega)]
    rw [List.drop_of_length_le (by omega), List.drop_of_length_le (by omega)]
    exact Ev.now _
  | succ d ih =>
    intro i hd
    have hi : i < a.length := by omega
    have hi' : i < b.length := by omega
    apply Ev.succ
    simp only [slices_Equal_int64_int64.l0, if_pos (show (i : Int) < (a.length : Int) by omega), if_pos (show 0 ≤ (i : Int) by omega), if_pos (show (i : Int) < (b.length : Int) by omega), rd_get hi, rd_get hi', w64 (show (-9223372036854775808) ≤ (i : Int) + 1 by omega) (by omega)]
    rw [List.drop_eq_getElem_cons hi, List.drop_eq_getElem_cons hi']
    by_cases h : a[i] = b[i]
    · simp only [if_pos h]
      exact (ih (i + 1) (by omega)).to (by simp only [List.cons.injEq, h, true_and])
    · simp only [if_neg h]
      exact (Ev.now _).to (by simp only [List.cons.injEq, h, false_and, decide_false])
theorem slEqual_ev (a b : List Int) (hm : a.length ≤ 9223372036854775806) : Ev (fun k => slices_Equal_int64_int64.f k a b) (decide (a = b)) := by
  unfold slices_Equal_int64_int64.f
  by_cases h : a.length = b.length
  · simp only [if_pos (show (a.length : Int) = (b.length : Int) by omega)]
    simpa using sleq_l0 a b h hm a.length 0 (by omega)
  · simp only [if_neg (show ¬ (a.length : Int) = (b.length : Int) by omega)]
    exact (Ev.now _).to (by symm; simp; intro e; exact h (by rw [e]))

/-! impl.IsSequence -/
theorem iseq_l0 (d l : List Int) (hd : d.length ≤ 6) (hl : l.length ≤ 1048576) (ha : ∀ p ∈ l, 0 ≤ p ∧ p ≤ (d.length : Int) - 1) : ∀ (e i : Nat) (c : List Int), e + i = l.length → c.length = d.length → Ev (fun k => impl_IsSequence.l0 k d c l (l.length : Int) i) (decide (tally c (l.drop i) = d)) := by
  intro e
  induction e with
  | zero =>
    intro i c he hc
    apply Ev.succ
    simp only [impl_IsSequence.l0, if_neg (show ¬ (i : Int) < (l.length : Int) by omega)]
    rw [List.drop_of_length_le (by omega)]
    exact (Ev.bind (slEqual_ev c d (by omega)) (Ev.now _)).to rfl
  | succ e ih =>
    intro i c he hc
    have hi : i < l.length := by omega
    have h := ha l[i] (List.getElem_mem hi)
    apply Ev.succ
    simp only [impl_IsSequence.l0, if_pos (show (i : Int) < (l.length : Int) by omega), if_pos (show 0 ≤ (i : Int) by omega), rd_get hi, if_pos h.1, if_pos (show l[i] < (c.length : Int) by omega), w64 (show (-9223372036854775808) ≤ (i : Int) + 1 by omega) (by omega)]
    rw [List.drop_eq_getElem_cons hi, tally_cons]
    exact ih (i + 1) (bump c l[i]) (by omega) (by rw [bump_length, hc])
theorem iSEQ_ev (d l : List Int) (hl : l.length ≤ 1048576) (hdl : d.length ≤ 1048576) : Ev (fun k => impl_IsSequence.f k d l) (SEQ d l) := by
  unfold impl_IsSequence.f SEQ
  refine Ev.bind (iVD_ev d (by omega)) ?_
  cases h : VD d with
  | true =>
    obtain ⟨h1, h2, h3⟩ := VD_facts h
    simp only [if_true, Bool.true_and, impl_size_int64.f, Option.bind_some]
    refine Ev.bind (isum_ev d (by omega)) ?_
    have hs : wsum 0 d = d.sum := by
      rw [wsum_eq 40 d 0 (fun x hx => by have := h3 x hx; omega) (by omega) (by omega) (by omega)]; omega
    rw [hs]
    by_cases he : (l.length : Int) = d.sum
    · simp only [if_pos he]
      rw [w64 (show (-9223372036854775808) ≤ (d.length : Int) - 1 by omega) (by omega)]
      refine Ev.bind (areWithin_ev l 0 ((d.length : Int) - 1) (by omega)) ?_
      apply Ev.succ
      cases ha : (l.all fun n => decide (0 ≤ n ∧ n ≤ (d.length : Int) - 1)) with
      | true =>
        have ha' : ∀ n ∈ l, 0 ≤ n ∧ n ≤ (d.length : Int) - 1 := by simpa using ha
        simp only [impl_IsSequence.j0, Bool.not_true, Bool.false_eq_true, if_false, Bool.true_and, if_pos (show 0 ≤ (d.length : Int) by omega), Int.toNat_natCast, if_pos (show d.length ≤ 35184372088832 by omega)]
        have := iseq_l0 d l h2 hl ha' l.length 0 (List.replicate d.length 0) (by omega) (by simp)
        simpa using this
      | false =>
        simp only [impl_IsSequence.j0, Bool.not_false, if_true, Bool.false_and]
        exact Ev.now _
    · simp only [if_neg he]
      apply Ev.succ
      simp only [impl_IsSequence.j0, if_true]
      refine (Ev.now _).to ?_
      cases ha : (l.all fun n => decide (0 ≤ n ∧ n ≤ (d.length : Int) - 1)) with
      | true =>
        have ha' : ∀ n ∈ l, 0 ≤ n ∧ n ≤ (d.length : Int) - 1 := by simpa using ha
        rw [Bool.true_and]
        symm
        apply decide_eq_false
        intro e
        have := tally_sum l (List.replicate d.length 0) 0 zeros_mem (fun p hp => by have := ha' p hp; simp; omega) (by omega) (by omega)
        rw [e, zeros_sum] at this
        omega
      | false => rfl
  | false =>
    simp only [Bool.false_eq_true, if_false, Bool.false_and]
    apply Ev.succ
    simp only [impl_IsSequence.j0, if_true]
    exact Ev.now _

/-! impl.deviations -/
theorem rd_getDD {xs : List Int} {i : Nat} : rd xs (i : Int) = xs.getD i 0 := by
  unfold rd; simp
theorem idev_l0 (d c : List Int) (hc : c.length = d.length) (hd : d.length ≤ 1048576) : ∀ (e i : Nat), e + i = d.length → Ev (fun k => impl_deviations.l0 k d c ((List.range i).map (bown (wsum 0 d) (wsum 0 c) d c)) d (d.length : Int) i) (BEH d c) := by
  intro e
  induction e with
  | zero =>
    intro i he
    apply Ev.succ
    simp only [impl_deviations.l0, if_neg (show ¬ (i : Int) < d.length by omega)]
    rw [show i = d.length by omega]
    exact Ev.now _
  | succ e ih =>
    intro i he
    have hi : i < d.length := by omega
    apply Ev.succ
    simp only [impl_deviations.l0, if_pos (show (i : Int) < d.length by omega), if_pos (show 0 ≤ (i : Int) by omega)]
    refine Ev.bind (isum_ev d (by omega)) ?_
    simp only [if_pos (show (i : Int) < c.length by omega)]
    refine Ev.bind (isum_ev c (by omega)) ?_
    simp only [if_pos (show ((List.range i).map (bown (wsum 0 d) (wsum 0 c) d c)).length < 17592186044416 by simp; omega), rd_getDD, inc hi (by omega)]
    have := ih (i + 1) (by omega)
    rw [List.range_succ, List.map_append] at this
    exact this
theorem ideviations_ev (d c : List Int) (hc : c.length = d.length) (hd : d.length ≤ 1048576) : Ev (fun k => impl_deviations.f k d c) (BEH d c) := by
  unfold impl_deviations.f
  exact idev_l0 d c hc hd d.length 0 (by omega)

/-! impl.DeviationsOf -/
theorem idof_l0 (d l : List Int) (hd : d.length ≤ 6) (hl : l.length ≤ 1048576) (hp : ∀ p ∈ l, 0 ≤ p ∧ p ≤ (d.length : Int) - 1) : ∀ (e i : Nat) (c : List Int) (acc : List (List Int)), e + i = l.length → c.length = d.length → acc.length = i → Ev (fun k => impl_DeviationsOf.l0 k d c acc l (l.length : Int) i) (acc ++ DEVS d c (l.drop i), true) := by
  intro e
  induction e with
  | zero =>
    intro i c acc he hc ha
    apply Ev.succ
    simp only [impl_DeviationsOf.l0, if_neg (show ¬ (i : Int) < l.length by omega)]
    rw [List.drop_of_length_le (by omega)]
    simpa [DEVS] using Ev.now (acc, true)
  | succ e ih =>
    intro i c acc he hc ha
    have hi : i < l.length := by omega
    have hq := hp l[i] (List.getElem_mem hi)
    have hlen : (cnt c l[i]).length = d.length := by rw [cnt_length, hc]
    apply Ev.succ
    simp only [impl_DeviationsOf.l0, if_pos (show (i : Int) < l.length by omega), if_pos (show 0 ≤ (i : Int) by omega), rd_get hi, if_pos hq.1, if_pos (show l[i] < (c.length : Int) by omega), Option.bind_some]
    refine Ev.bind (ideviations_ev d (cnt c l[i]) hlen (by omega)) ?_
    simp only [if_pos (show acc.length < 5864062014805 by omega), inc hi (by omega)]
    have := ih (i + 1) (cnt c l[i]) (acc ++ [BEH d (cnt c l[i])]) (by omega) hlen (by simp [ha])
    rw [List.drop_eq_getElem_cons hi]
    exact this.to (by simp [DEVS])
theorem iDOF_ev (d l : List Int) (hl : l.length ≤ 1048576) (hdl : d.length ≤ 1048576) : Ev (fun k => impl_DeviationsOf.f k d l) (DOF d l) := by
  unfold impl_DeviationsOf.f DOF
  refine Ev.bind (iSEQ_ev d l hl hdl) ?_
  cases h : SEQ d l with
  | false =>
    simp only [Bool.false_eq_true, if_false]
    exact Ev.now _
  | true =>
    obtain ⟨h1, h2, h3, h4, h5⟩ := SEQ_facts h
    simp only [if_true, if_pos (show 0 ≤ (d.length : Int) by omega), Int.toNat_natCast, if_pos (show d.length ≤ 35184372088832 by omega)]
    have := idof_l0 d l h3 hl h5 l.length 0 (List.replicate d.length 0) [] (by omega) (by simp) rfl
    simpa using this

/-! the law -/
theorem sDOF_ev (d l : List Int) (hl : l.length ≤ 1048576) (hdl : d.length ≤ 1048576) : Ev (fun k => spec_DeviationsOf.f k d l) (DOF d l) := by
  unfold spec_DeviationsOf.f DOF
  refine Ev.bind (l08Is_ev d) ?_
  cases h1 : VD d with
  | false =>
    have h : SEQ d l = false := by rw [SEQ, h1, Bool.false_and]
    simp only [h, Bool.false_eq_true, if_false]
    exact Ev.now _
  | true =>
    simp only [if_true]
    refine Ev.bind (l08Sequence_ev d l (VD_facts h1).2.1 hl) ?_
    have e : SEQ d l = ((l.all fun n => decide (0 ≤ n ∧ n ≤ (d.length : Int) - 1)) && decide (tally (List.replicate d.length 0) l = d)) := by rw [SEQ, h1, Bool.true_and]
    rw [← e]
    cases h : SEQ d l with
    | false =>
      simp only [Bool.false_eq_true, if_false]
      exact Ev.now _
    | true =>
      obtain ⟨_, h2, h3, h4, h5⟩ := SEQ_facts h
      simp only [if_true]
      exact Ev.bind (l08All_ev d l h3 hl h5) (Ev.now _)
theorem DOF_len (d l : List Int) (hl : l.length ≤ 1048576) : (DOF d l).1.length ≤ 1048576 ∧ ∀ r ∈ (DOF d l).1, r.length ≤ 1048576 := by
  unfold DOF
  cases h : SEQ d l with
  | false => simp
  | true =>
    obtain ⟨_, h2, h3, h4, h5⟩ := SEQ_facts h
    simp only [if_true]
    refine ⟨by rw [devs_length]; exact hl, fun r hr => ?_⟩
    rw [devs_row d _ _ r hr]; omega
theorem FnExactDeviationsOf : laws_FnExactDeviationsOf.Pure := by
  intro d l _ _ _ _
  apply Ev.rounds
  unfold laws_FnExactDeviationsOf.f
  by_cases hm : (d.length : Int) > 1048576
  · simp only [if_pos hm]
    exact Ev.now _
  by_cases hm2 : (l.length : Int) > 1048576
  · simp only [if_neg hm, if_pos hm2]
    exact Ev.now _
  simp only [if_neg hm, if_neg hm2]
  have ht := toInt64S_ev d (by omega)
  have ht2 := toInt64S_ev l (by omega)
  have hd := eqInt64S_ev d d (by omega)
  have hl := eqInt64S_ev l l (by omega)
  obtain ⟨n1, n2⟩ := DOF_len d l (by omega)
  have hb := mtot_bnd (DOF d l).1 1 1048576 n2
  have hb2 : ((1048576 : Nat) : Int) * ((DOF d l).1.length : Int) ≤ 1099511627776 := by
    have := Int.mul_le_mul_of_nonneg_left (show ((DOF d l).1.length : Int) ≤ 1048576 by omega) (show (0 : Int) ≤ ((1048576 : Nat) : Int) by omega)
    omega
  have he := eqInt64SS_ev (DOF d l).1 (DOF d l).1 (by omega) (fun r hr => by have := n2 r hr; omega)
  have hi := iDOF_ev d l (by omega) (by omega)
  have hh := heldSS_ev (DOF d l).1 1 n1 n2 (by omega) (by omega)
  refine Ev.bind ht (Ev.bind ht2 (Ev.bind (sDOF_ev d l (by omega) (by omega)) (Ev.bind ht (Ev.bind ht2 (Ev.bind hi (Ev.bind he ?_))))))
  simp only [decide_true, if_true]
  refine Ev.bind ht (Ev.bind hd ?_)
  simp only [decide_true, if_true]
  refine Ev.bind ht2 (Ev.bind hl ?_)
  simp only [decide_true, if_true]
  refine Ev.bind (markInt64S_ev d 1 (by omega) (by omega) (by omega)) (Ev.bind (markInt64S_ev l (1 + (d.length : Int)) (by omega) (by omega) (by omega)) ?_)
  simp only [if_neg (show ¬ (1 + (d.length : Int) + (l.length : Int)) < 0 by omega)]
  refine Ev.bind he ?_
  simp only [decide_true, if_true]
  refine Ev.bind (markSSk_ev (DOF d l).1 1 n1 n2 (by omega) (by omega)) (Ev.bind hh ?_)
  simp only [if_neg (show ¬ mtot_ 1 (DOF d l).1 < 0 by omega), if_true]
  refine Ev.bind ht (Ev.bind ht2 (Ev.bind hi (Ev.bind he ?_)))
  simp only [decide_true, if_true]
  refine Ev.bind hh ?_
  simp only [if_neg (show ¬ mtot_ 1 (DOF d l).1 < 0 by omega), if_true]
  exact Ev.now _


end Go.Proofs.Ytkcdmmegdhiabaa.Pure
