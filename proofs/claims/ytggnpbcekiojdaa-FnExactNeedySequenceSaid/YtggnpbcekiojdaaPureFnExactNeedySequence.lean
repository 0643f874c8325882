/- Proved: the pure half of the law FnExactNeedySequence: the printed functions answer true, for every input. No condition. -/
import Derived.Test.YtggnpbcekiojdaaPFnExactNeedySequencex5
import Derived.Test.YtggnpbcekiojdaaBase
import Derived.Test.YtggnpbcekiojdaaMarks
import Derived.Test.YtggnpbcekiojdaaLists
namespace Go.Proofs.Ytggnpbcekiojdaa.Pure
open Go.RowKit Go.Proofs.Ytggnpbcekiojdaa.PFnExactNeedySequence Go.Proofs.YtggnpbcekiojdaaW.PrintWords Go.Proofs.YtggnpbcekiojdaaW.PrintLast Go.Proofs.YtggnpbcekiojdaaW.PrintMore Go.Proofs.Ytggnpbcekiojdaa.Base
set_option linter.unusedVariables false
set_option linter.unusedSimpArgs false

/-! laws.eqInt64S -/
theorem eq_l0 (a b : List Int) (hl : a.length = b.length) (hm : a.length ≤ 9223372036854775806) : ∀ (d i : Nat), d + i = a.length → Ev (fun k => laws_eqInt64S.l0 k a b i) (decide (a.drop i = b.drop i)) := by
  intro d
  induction d with
  | zero =>
    intro i hd
    apply Ev.succ
    simp only [laws_eqInt64S.l0, if_neg (show ¬ (i : Int) < (a.length : Int) by omega)]
    rw [List.drop_of_length_le (by omega), List.drop_of_length_le (by omega)]
    exact Ev.now _
  | succ d ih =>
    intro i hd
    have hi : i < a.length := by omega
    have hi' : i < b.length := by omega
    apply Ev.succ
    simp only [laws_eqInt64S.l0, if_pos (show (i : Int) < (a.length : Int) by omega), if_pos (show 0 ≤ (i : Int) by omega), if_pos (show (i : Int) < (b.length : Int) by omega), rd_get hi, rd_get hi', w64 (show (-9223372036854775808) ≤ (i : Int) + 1 by omega) (by omega)]
    rw [List.drop_eq_getElem_cons hi, List.drop_eq_getElem_cons hi']
    by_cases h : a[i] = b[i]
    · simp only [if_pos h]
      exact (ih (i + 1) (by omega)).to (by simp only [List.cons.injEq, h, true_and])
    · simp only [if_neg h]
      exact (Ev.now _).to (by simp only [List.cons.injEq, h, false_and, decide_false])
theorem eqInt64S_ev (a b : List Int) (hm : a.length ≤ 9223372036854775806) : Ev (fun k => laws_eqInt64S.f k a b) (decide (a = b)) := by
  unfold laws_eqInt64S.f
  by_cases h : a.length = b.length
  · simp only [if_pos (show (a.length : Int) = (b.length : Int) by omega)]
    simpa using eq_l0 a b h hm a.length 0 (by omega)
  · simp only [if_neg (show ¬ (a.length : Int) = (b.length : Int) by omega)]
    exact (Ev.now _).to (by symm; simp; intro e; exact h (by rw [e]))

/-! laws.markInt64S -/
theorem mark_l0 (l : List Int) (m : Int) (hl : l.length ≤ 140737488355328) (h0 : 0 ≤ m) (h1 : m ≤ 4611686018427387904) : ∀ (d i : Nat), d + i = l.length → Ev (fun k => laws_markInt64S.l0 k (MARKS m i ++ l.drop i) (m + (i : Int)) i) (m + (l.length : Int), MARKS m l.length) := by
  intro d
  induction d with
  | zero =>
    intro i hd
    apply Ev.succ
    simp only [laws_markInt64S.l0, if_neg (show ¬ (i : Int) < ((MARKS m i ++ l.drop i).length : Int) by simp [MARKS_length]; omega)]
    rw [show i = l.length by omega, List.drop_length, List.append_nil]
    exact Ev.now _
  | succ d ih =>
    intro i hd
    have hi : i < l.length := by omega
    apply Ev.succ
    simp only [laws_markInt64S.l0, if_pos (show (i : Int) < ((MARKS m i ++ l.drop i).length : Int) by simp [MARKS_length]; omega), if_pos (show 0 ≤ (i : Int) by omega), Int.toNat_natCast, marks_step l m i hi, w64 (show (-9223372036854775808) ≤ (i : Int) + 1 by omega) (by omega), w64 (show (-9223372036854775808) ≤ m + (i : Int) + 1 by omega) (by omega)]
    have := ih (i + 1) (by omega)
    rw [Int.natCast_succ, ← Int.add_assoc] at this
    exact this
theorem markInt64S_ev (l : List Int) (m : Int) (hl : l.length ≤ 140737488355328) (h0 : 0 ≤ m) (h1 : m ≤ 4611686018427387904) : Ev (fun k => laws_markInt64S.f k l m) (m + (l.length : Int), MARKS m l.length) := by
  have := mark_l0 l m hl h0 h1 l.length 0 (by omega)
  simpa [laws_markInt64S.f, MARKS] using this

/-! laws.heldInt64S -/
theorem held_l0 (m : Int) (n : Nat) (hl : n ≤ 140737488355328) (h0 : 0 ≤ m) (h1 : m ≤ 4611686018427387904) : ∀ (d i : Nat), d + i = n → Ev (fun k => laws_heldInt64S.l0 k (MARKS m n) (m + (i : Int)) i) (m + (n : Int)) := by
  intro d
  induction d with
  | zero =>
    intro i hd
    apply Ev.succ
    simp only [laws_heldInt64S.l0, MARKS_length, if_neg (show ¬ (i : Int) < (n : Int) by omega)]
    rw [show i = n by omega]
    exact Ev.now _
  | succ d ih =>
    intro i hd
    have hi : i < (MARKS m n).length := by rw [MARKS_length]; omega
    apply Ev.succ
    simp only [laws_heldInt64S.l0, MARKS_length, if_pos (show (i : Int) < (n : Int) by omega), if_pos (show 0 ≤ (i : Int) by omega), rd_get hi, MARKS_get m n i hi, if_true, w64 (show (-9223372036854775808) ≤ (i : Int) + 1 by omega) (by omega), w64 (show (-9223372036854775808) ≤ m + (i : Int) + 1 by omega) (by omega)]
    have := ih (i + 1) (by omega)
    rw [Int.natCast_succ, ← Int.add_assoc] at this
    exact this
theorem heldInt64S_ev (m : Int) (n : Nat) (hl : n ≤ 140737488355328) (h0 : 0 ≤ m) (h1 : m ≤ 4611686018427387904) : Ev (fun k => laws_heldInt64S.f k (MARKS m n) m) (m + (n : Int)) := by
  have := held_l0 m n hl h0 h1 n 0 (by omega)
  simpa [laws_heldInt64S.f] using this

/-! laws.toInt64S -/
theorem to_step (l : List Int) (i : Nat) (hi : i < l.length) : (l.take i ++ List.replicate (l.length - i) 0).set i l[i] = l.take (i + 1) ++ List.replicate (l.length - (i + 1)) 0 := by
  rw [show l.length - i = (l.length - (i + 1)) + 1 by omega, List.replicate_succ, List.set_append, if_neg (by simp; omega), List.length_take, Nat.min_eq_left (by omega), Nat.sub_self, List.set_cons_zero, List.take_succ_eq_append_getElem hi, List.append_assoc]
  rfl
theorem to_l0 (l : List Int) (hl : l.length ≤ 35184372088832) : ∀ (d i : Nat), d + i = l.length → Ev (fun k => laws_toInt64S.l0 k l (l.take i ++ List.replicate (l.length - i) 0) i) l := by
  intro d
  induction d with
  | zero =>
    intro i hd
    apply Ev.succ
    simp only [laws_toInt64S.l0, if_neg (show ¬ (i : Int) < (l.length : Int) by omega)]
    rw [List.take_of_length_le (by omega), show l.length - i = 0 by omega]
    simpa using Ev.now l
  | succ d ih =>
    intro i hd
    have hi : i < l.length := by omega
    apply Ev.succ
    simp only [laws_toInt64S.l0, if_pos (show (i : Int) < (l.length : Int) by omega), if_pos (show 0 ≤ (i : Int) by omega), if_pos (show (i : Int) < ((l.take i ++ List.replicate (l.length - i) (0 : Int)).length : Int) by simp; omega), rd_get hi, w64 (show (-9223372036854775808) ≤ (i : Int) + 1 by omega) (by omega), Int.toNat_natCast, to_step l i hi]
    exact ih (i + 1) (by omega)
theorem toInt64S_ev (l : List Int) (hl : l.length ≤ 35184372088832) : Ev (fun k => laws_toInt64S.f k l) l := by
  simp only [laws_toInt64S.f, if_pos (show 0 ≤ (l.length : Int) by omega), Int.toNat_natCast, if_pos hl]
  have := to_l0 l hl l.length 0 (by omega)
  simpa using this

/-! spec.l00In -/
theorem in_eq (a b c : Int) : spec_l00In.f a b c = some (decide (b ≤ a ∧ a ≤ c)) := by
  unfold spec_l00In.f
  by_cases h : b ≤ a
  · rw [if_pos (show a ≥ b from h)]; simp [h]
  · rw [if_neg (show ¬ a ≥ b from h)]; simp [h]

/-! spec.l00Min -/
theorem min_eq (a b : Int) : spec_l00Min.f a b = some (min a b) := by
  unfold spec_l00Min.f
  by_cases h : a < b
  · rw [if_pos h, Int.min_eq_left (by omega)]
  · rw [if_neg h, Int.min_eq_right (by omega)]

/-! spec.l08Is -/

def le5 (x : Int) : Bool := decide (x ≤ 5000)
theorem le5_no {x : Int} (h : ¬ x ≤ 5000) : le5 x = false := decide_eq_false h
def VD (l : List Int) : Bool := decide (1 ≤ (l.length : Int) ∧ (l.length : Int) ≤ 6) && (l.all fun n => decide (1 ≤ n ∧ n ≤ 40)) && le5 (l.foldl (fun s d => s * (d + 1)) 1)
theorem foldl_ge (l : List Int) : ∀ (s : Int), 0 < s → (∀ n ∈ l, 1 ≤ n ∧ n ≤ 40) → s ≤ l.foldl (fun s d => s * (d + 1)) s := by
  induction l with
  | nil => intro s _ _; exact Int.le_refl _
  | cons d l ih =>
    intro s hs h
    have hd := h d List.mem_cons_self
    have h1 : s * 1 ≤ s * (d + 1) := Int.mul_le_mul_of_nonneg_left (by omega) (by omega)
    exact Int.le_trans (by omega) (ih (s * (d + 1)) (by omega) (fun n hn => h n (List.mem_cons_of_mem _ hn)))
theorem vd_l0 (l : List Int) (hl : l.length ≤ 6) : ∀ (d i : Nat) (s : Int), d + i = l.length → 1 ≤ s → s ≤ 5001 → Ev (fun k => spec_l08Is.l0 k l s i) (((l.drop i).all fun n => decide (1 ≤ n ∧ n ≤ 40)) && le5 ((l.drop i).foldl (fun s d => s * (d + 1)) s)) := by
  intro d
  induction d with
  | zero =>
    intro i s hd h1 h2
    apply Ev.succ
    simp only [spec_l08Is.l0, if_neg (show ¬ (i : Int) < (l.length : Int) by omega)]
    rw [List.drop_of_length_le (by omega)]
    exact (Ev.now _).to rfl
  | succ d ih =>
    intro i s hd h1 h2
    have hi : i < l.length := by omega
    apply Ev.succ
    simp only [spec_l08Is.l0, if_pos (show (i : Int) < (l.length : Int) by omega), if_pos (show 0 ≤ (i : Int) by omega), rd_get hi, in_eq, Option.bind_some, min_eq, w64 (show (-9223372036854775808) ≤ (i : Int) + 1 by omega) (by omega)]
    rw [List.drop_eq_getElem_cons hi]
    by_cases h : 1 ≤ l[i] ∧ l[i] ≤ 40
    · have p1 : s * 2 ≤ s * (l[i] + 1) := Int.mul_le_mul_of_nonneg_left (by omega) (by omega)
      have p2 : s * (l[i] + 1) ≤ s * 41 := Int.mul_le_mul_of_nonneg_left (by omega) (by omega)
      simp only [decide_eq_true h, if_true, w64 (show (-9223372036854775808) ≤ l[i] + 1 by omega) (by omega), w64 (show (-9223372036854775808) ≤ s * (l[i] + 1) by omega) (by omega), List.all_cons, Bool.true_and, List.foldl_cons]
      by_cases hm : s * (l[i] + 1) ≤ 5001
      · rw [Int.min_eq_left hm]
        exact ih (i + 1) _ (by omega) (by omega) hm
      · rw [Int.min_eq_right (by omega)]
        refine (ih (i + 1) 5001 (by omega) (by omega) (by omega)).to ?_
        by_cases ha : (l.drop (i + 1)).all (fun n => decide (1 ≤ n ∧ n ≤ 40)) = true
        · rw [ha, Bool.true_and, Bool.true_and]
          have ha' : ∀ n ∈ l.drop (i + 1), 1 ≤ n ∧ n ≤ 40 := by simpa using ha
          have g1 := foldl_ge _ 5001 (by omega) ha'
          have g2 := foldl_ge _ (s * (l[i] + 1)) (by omega) ha'
          rw [le5_no (by omega), le5_no (by omega)]
        · rw [Bool.eq_false_iff.2 ha, Bool.false_and, Bool.false_and]
    · simp only [decide_eq_false h, if_false, List.all_cons, Bool.false_and, Bool.false_eq_true]
      exact Ev.now _
theorem l08Is_ev (l : List Int) : Ev (fun k => spec_l08Is.f k l) (VD l) := by
  simp only [spec_l08Is.f, in_eq, Option.bind_some, VD]
  by_cases h : 1 ≤ (l.length : Int) ∧ (l.length : Int) ≤ 6
  · simp only [decide_eq_true h, if_true, Bool.true_and]
    have := vd_l0 l (by omega) l.length 0 1 (by omega) (by omega) (by omega)
    simpa using this
  · simp only [decide_eq_false h, if_false, Bool.false_and, Bool.false_eq_true]
    exact Ev.now _

/-! spec.l01Sum -/
theorem ssum_l0 (l : List Int) (hl : l.length ≤ 9223372036854775806) : ∀ (d i : Nat) (acc : Int), d + i = l.length → Ev (fun k => spec_l01Sum.l0 k l acc i) (wsum acc (l.drop i)) := by
  intro d
  induction d with
  | zero =>
    intro i acc hd
    apply Ev.succ
    simp only [spec_l01Sum.l0, if_neg (show ¬ (i : Int) < (l.length : Int) by omega)]
    rw [List.drop_of_length_le (by omega)]
    exact Ev.now _
  | succ d ih =>
    intro i acc hd
    have hi : i < l.length := by omega
    apply Ev.succ
    simp only [spec_l01Sum.l0, if_pos (show (i : Int) < (l.length : Int) by omega), if_pos (show 0 ≤ (i : Int) by omega), rd_get hi, w64 (show (-9223372036854775808) ≤ (i : Int) + 1 by omega) (by omega)]
    rw [List.drop_eq_getElem_cons hi]
    exact ih (i + 1) _ (by omega)
theorem ssum_ev (l : List Int) (hl : l.length ≤ 9223372036854775806) : Ev (fun k => spec_l01Sum.f k l) (wsum 0 l) := by
  have := ssum_l0 l hl l.length 0 0 (by omega)
  simpa [spec_l01Sum.f] using this

/-! impl.within -/
theorem within_eq (a b c : Int) : impl_within.f a b c = some (decide (b ≤ a ∧ a ≤ c)) := by
  unfold impl_within.f
  by_cases h : b ≤ a
  · rw [if_pos h]; simp [h]
  · rw [if_neg h]; simp [h]

/-! impl.areWithin -/
theorem aw_l0 (l : List Int) (a b : Int) (hl : l.length ≤ 9223372036854775806) : ∀ (d i : Nat), d + i = l.length → ∃ r : Int, Ev (fun k => slices_IndexFunc_int64_int64_impl_areWithin_1.l0 k l (l.length : Int) i a b) r ∧ (decide (r ≥ 0) = !(l.drop i).all fun n => decide (a ≤ n ∧ n ≤ b)) := by
  intro d
  induction d with
  | zero =>
    intro i hd
    refine ⟨-1, ?_, ?_⟩
    · apply Ev.succ
      simp only [slices_IndexFunc_int64_int64_impl_areWithin_1.l0, if_neg (show ¬ (i : Int) < (l.length : Int) by omega)]
      exact Ev.now _
    · rw [List.drop_of_length_le (by omega)]; rfl
  | succ d ih =>
    intro i hd
    have hi : i < l.length := by omega
    obtain ⟨r, hr, he⟩ := ih (i + 1) (by omega)
    by_cases h : a ≤ l[i] ∧ l[i] ≤ b
    · refine ⟨r, ?_, ?_⟩
      · apply Ev.succ
        simp only [slices_IndexFunc_int64_int64_impl_areWithin_1.l0, if_pos (show (i : Int) < (l.length : Int) by omega), if_pos (show 0 ≤ (i : Int) by omega), rd_get hi, impl_areWithin_1.f, within_eq, decide_eq_true h, Option.bind_some, w64 (show (-9223372036854775808) ≤ (i : Int) + 1 by omega) (by omega)]
        simpa using hr
      · rw [he, List.drop_eq_getElem_cons hi, List.all_cons, decide_eq_true h, Bool.true_and]
    · refine ⟨i, ?_, ?_⟩
      · apply Ev.succ
        simp only [slices_IndexFunc_int64_int64_impl_areWithin_1.l0, if_pos (show (i : Int) < (l.length : Int) by omega), if_pos (show 0 ≤ (i : Int) by omega), rd_get hi, impl_areWithin_1.f, within_eq, decide_eq_false h, Option.bind_some]
        simpa using Ev.now _
      · rw [List.drop_eq_getElem_cons hi, List.all_cons, decide_eq_false h, Bool.false_and]; simp
theorem areWithin_ev (l : List Int) (a b : Int) (hl : l.length ≤ 9223372036854775806) : Ev (fun k => impl_areWithin.f k l a b) (l.all fun n => decide (a ≤ n ∧ n ≤ b)) := by
  obtain ⟨r, hr, he⟩ := aw_l0 l a b hl l.length 0 (by omega)
  unfold impl_areWithin.f
  simp only [slices_ContainsFunc_int64_int64_impl_areWithin_1.f, slices_IndexFunc_int64_int64_impl_areWithin_1.f]
  refine Ev.bind (Ev.bind hr (Ev.now _)) ?_
  refine (Ev.now _).to ?_
  rw [he, List.drop_zero, Bool.not_not]

/-! impl.ValidDemands -/
theorem foldl_lt (l : List Int) : ∀ (s m : Int), 0 < s → s ≤ m → (∀ n ∈ l, 1 ≤ n ∧ n ≤ 40) → l.foldl (fun s d => s * (d + 1)) s ≤ m * 41 ^ l.length := by
  induction l with
  | nil => intro s m _ h _; simpa using h
  | cons d l ih =>
    intro s m hs hm h
    have hd := h d List.mem_cons_self
    have h1 : s * 1 ≤ s * (d + 1) := Int.mul_le_mul_of_nonneg_left (by omega) (by omega)
    have h2 : s * (d + 1) ≤ s * 41 := Int.mul_le_mul_of_nonneg_left (by omega) (by omega)
    have := ih (s * (d + 1)) (m * 41) (by omega) (by omega) (fun n hn => h n (List.mem_cons_of_mem _ hn))
    rw [List.foldl_cons, List.length_cons, Int.pow_succ', ← Int.mul_assoc]
    exact this
theorem ivd_l0 (l : List Int) (hl : l.length ≤ 6) (ha : ∀ n ∈ l, 1 ≤ n ∧ n ≤ 40) : ∀ (d i : Nat) (s : Int), d + i = l.length → 1 ≤ s → s ≤ 41 ^ i → Ev (fun k => impl_ValidDemands.l0 k s l (l.length : Int) i) (le5 ((l.drop i).foldl (fun s d => s * (d + 1)) s)) := by
  intro d
  induction d with
  | zero =>
    intro i s hd h1 h2
    apply Ev.succ
    simp only [impl_ValidDemands.l0, if_neg (show ¬ (i : Int) < (l.length : Int) by omega)]
    rw [List.drop_of_length_le (by omega)]
    exact (Ev.now _).to rfl
  | succ d ih =>
    intro i s hd h1 h2
    have hi : i < l.length := by omega
    have hx := ha l[i] (List.getElem_mem hi)
    have p1 : s * 2 ≤ s * (l[i] + 1) := Int.mul_le_mul_of_nonneg_left (by omega) (by omega)
    have p2 : s * (l[i] + 1) ≤ s * 41 := Int.mul_le_mul_of_nonneg_left (by omega) (by omega)
    have p3 : s * 41 ≤ 41 ^ i * 41 := Int.mul_le_mul_of_nonneg_right h2 (by omega)
    have p4 : (41 : Int) ^ i * 41 ≤ 41 ^ 6 := by
      rw [← Int.pow_succ]
      have hle : i + 1 ≤ 6 := by omega
      have : ∀ j : Fin 7, (41 : Int) ^ j.val ≤ 41 ^ 6 := by decide
      exact this ⟨i + 1, by omega⟩
    have p5 : (41 : Int) ^ 6 = 4750104241 := by decide
    apply Ev.succ
    simp only [impl_ValidDemands.l0, if_pos (show (i : Int) < (l.length : Int) by omega), if_pos (show 0 ≤ (i : Int) by omega), rd_get hi, w64 (show (-9223372036854775808) ≤ (i : Int) + 1 by omega) (by omega), w64 (show (-9223372036854775808) ≤ l[i] + 1 by omega) (by omega), w64 (show (-9223372036854775808) ≤ s * (l[i] + 1) by omega) (by omega)]
    rw [List.drop_eq_getElem_cons hi, List.foldl_cons]
    exact ih (i + 1) _ (by omega) (by omega) (by rw [Int.pow_succ]; omega)
theorem iVD_ev (l : List Int) (hl : l.length ≤ 9223372036854775806) : Ev (fun k => impl_ValidDemands.f k l) (VD l) := by
  simp only [impl_ValidDemands.f, impl_size_int64.f, Option.bind_some, within_eq, VD]
  by_cases h : 1 ≤ (l.length : Int) ∧ (l.length : Int) ≤ 6
  · simp only [decide_eq_true h, if_true, Bool.true_and]
    refine Ev.bind (areWithin_ev l 1 40 hl) ?_
    cases ha : (l.all fun n => decide (1 ≤ n ∧ n ≤ 40)) with
    | true =>
      have ha' : ∀ n ∈ l, 1 ≤ n ∧ n ≤ 40 := by simpa using ha
      apply Ev.succ
      simp only [impl_ValidDemands.j0, Bool.not_true, if_neg (show ¬ (false = true) by decide), Bool.true_and]
      have := ivd_l0 l (by omega) ha' l.length 0 1 (by omega) (by omega) (by decide)
      simpa using this
    | false =>
      apply Ev.succ
      simp only [impl_ValidDemands.j0, Bool.not_false, if_true, Bool.false_and]
      exact Ev.now _
  · simp only [decide_eq_false h, if_neg (show ¬ (false = true) by decide), Bool.false_and]
    apply Ev.succ
    simp only [impl_ValidDemands.j0, if_true]
    exact Ev.now _

/-! impl.sum -/
theorem isum_l0 (l : List Int) (hl : l.length ≤ 9223372036854775806) : ∀ (d i : Nat) (acc : Int), d + i = l.length → Ev (fun k => impl_sum.l0 k acc l (l.length : Int) i) (wsum acc (l.drop i)) := by
  intro d
  induction d with
  | zero =>
    intro i acc hd
    apply Ev.succ
    simp only [impl_sum.l0, if_neg (show ¬ (i : Int) < (l.length : Int) by omega)]
    rw [List.drop_of_length_le (by omega)]
    exact Ev.now _
  | succ d ih =>
    intro i acc hd
    have hi : i < l.length := by omega
    apply Ev.succ
    simp only [impl_sum.l0, if_pos (show (i : Int) < (l.length : Int) by omega), if_pos (show 0 ≤ (i : Int) by omega), rd_get hi, w64 (show (-9223372036854775808) ≤ (i : Int) + 1 by omega) (by omega)]
    rw [List.drop_eq_getElem_cons hi]
    exact ih (i + 1) _ (by omega)
theorem isum_ev (l : List Int) (hl : l.length ≤ 9223372036854775806) : Ev (fun k => impl_sum.f k l) (wsum 0 l) := by
  have := isum_l0 l hl l.length 0 0 (by omega)
  simpa [impl_sum.f] using this

/-! the law -/
theorem sum_le_of : ∀ (l cs : List Int), cs.length = l.length → (∀ j : Nat, j < l.length → l.getD j 0 ≤ cs.getD j 0) → l.sum ≤ cs.sum
  | [], cs, h, _ => by cases cs <;> simp at h ⊢
  | x :: l, [], h, _ => by simp at h
  | x :: l, y :: cs, h, hj => by
    have h1 := sum_le_of l cs (by simpa using h) (fun j hj1 => by have := hj (j + 1) (by simp; omega); simpa using this)
    have h2 := hj 0 (by simp)
    simp only [List.getD_cons_zero] at h2
    simp only [List.sum_cons]
    omega
theorem sum_setD : ∀ (l : List Int) (i : Nat) (v : Int), i < l.length → (l.set i v).sum = l.sum - l.getD i 0 + v
  | [], i, v, h => by simp at h
  | x :: l, 0, v, h => by simp; omega
  | x :: l, i + 1, v, h => by
    have := sum_setD l i v (by simpa using h)
    simp only [List.set_cons_succ, List.sum_cons, List.getD_cons_succ, this]
    omega
theorem sum_bounds : ∀ (l : List Int), (∀ n ∈ l, 1 ≤ n ∧ n ≤ 40) → 0 ≤ l.sum ∧ l.sum ≤ 40 * l.length
  | [], _ => by simp
  | x :: l, h => by
    have h1 := sum_bounds l (fun n hn => h n (List.mem_cons_of_mem _ hn))
    have h2 := h x List.mem_cons_self
    simp only [List.sum_cons, List.length_cons]
    omega
theorem nrd {xs : List Int} {i : Nat} : rd xs (i : Int) = xs.getD i 0 := by
  unfold rd; simp
/-- How needy an element is. -/
def nown (T k : Int) (cs l : List Int) (i : Nat) : Int := wrap64 ((wrap64 (T * cs.getD i 0)) - (wrap64 (k * l.getD i 0)))
theorem ns_in (l cs out : List Int) (T k : Int) (hcs : cs.length = l.length) (hl : l.length ≤ 6) : ∀ (d i : Nat) (best least : Int), d + i = l.length → ((best = -1 ∧ ∃ j : Nat, i ≤ j ∧ j < l.length ∧ cs.getD j 0 < l.getD j 0) ∨ (∃ b : Nat, best = (b : Int) ∧ b < l.length ∧ cs.getD b 0 < l.getD b 0 ∧ least = nown T k cs l b)) →
    ∃ (b : Nat) (m : Int), b < l.length ∧ cs.getD b 0 < l.getD b 0 ∧ (∀ r, Ev (fun q => spec_NeedySequence.l1 q l T cs out k b l.length) r → Ev (fun q => spec_NeedySequence.l1 q l T cs out k best i) r) ∧ (∀ r, Ev (fun q => impl_NeedySequence.l1 q l cs out T k b m l l.length l.length) r → Ev (fun q => impl_NeedySequence.l1 q l cs out T k best least l l.length i) r) := by
  intro d
  induction d with
  | zero =>
    intro i best least hd h
    have e : i = l.length := by omega
    subst e
    rcases h with ⟨_, j, h1, h2, _⟩ | ⟨b, rfl, h1, h2, h3⟩
    · omega
    · exact ⟨b, least, h1, h2, fun r h => h, fun r h => h⟩
  | succ d ih =>
    intro i best least hd h
    have hi : i < l.length := by omega
    by_cases c : cs.getD i 0 < l.getD i 0
    · rcases h with ⟨rfl, j, h1, h2, h3⟩ | ⟨b, rfl, h1, h2, h3⟩
      · obtain ⟨b, m, q1, q2, q3, q4⟩ := ih (i + 1) i (nown T k cs l i) (by omega) (.inr ⟨i, rfl, hi, c, rfl⟩)
        refine ⟨b, m, q1, q2, fun r hr => ?_, fun r hr => ?_⟩
        · apply Ev.succ
          simp only [spec_NeedySequence.l1, if_pos (show (i : Int) < l.length by omega), if_pos (show 0 ≤ (i : Int) by omega), if_pos (show (i : Int) < cs.length by omega), nrd, if_pos c, if_pos (show (-1 : Int) < 0 by omega), inc hi (by omega)]
          exact q3 r hr
        · apply Ev.succ
          simp only [impl_NeedySequence.l1, if_pos (show (i : Int) < l.length by omega), if_pos (show 0 ≤ (i : Int) by omega), if_pos (show (i : Int) < cs.length by omega), nrd, if_pos c, if_pos (show (-1 : Int) < 0 by omega), inc hi (by omega)]
          exact q4 r hr
      · subst h3
        by_cases e : nown T k cs l i < nown T k cs l b
        · obtain ⟨b', m, q1, q2, q3, q4⟩ := ih (i + 1) i (nown T k cs l i) (by omega) (.inr ⟨i, rfl, hi, c, rfl⟩)
          refine ⟨b', m, q1, q2, fun r hr => ?_, fun r hr => ?_⟩
          · apply Ev.succ
            have e' := e
            unfold nown at e'
            simp only [spec_NeedySequence.l1, if_pos (show (i : Int) < l.length by omega), if_pos (show 0 ≤ (i : Int) by omega), if_pos (show (i : Int) < cs.length by omega), nrd, if_pos c, if_neg (show ¬ (b : Int) < 0 by omega), if_pos (show 0 ≤ (b : Int) by omega), if_pos (show (b : Int) < cs.length by omega), if_pos (show (b : Int) < l.length by omega), if_pos e', inc hi (by omega)]
            exact q3 r hr
          · apply Ev.succ
            have e' := e
            unfold nown at e'
            simp only [impl_NeedySequence.l1, if_pos (show (i : Int) < l.length by omega), if_pos (show 0 ≤ (i : Int) by omega), if_pos (show (i : Int) < cs.length by omega), nrd, if_pos c, if_neg (show ¬ (b : Int) < 0 by omega), nown, if_pos e', inc hi (by omega)]
            exact q4 r hr
        · obtain ⟨b', m, q1, q2, q3, q4⟩ := ih (i + 1) b (nown T k cs l b) (by omega) (.inr ⟨b, rfl, h1, h2, rfl⟩)
          refine ⟨b', m, q1, q2, fun r hr => ?_, fun r hr => ?_⟩
          · apply Ev.succ
            have e' := e
            unfold nown at e'
            simp only [spec_NeedySequence.l1, if_pos (show (i : Int) < l.length by omega), if_pos (show 0 ≤ (i : Int) by omega), if_pos (show (i : Int) < cs.length by omega), nrd, if_pos c, if_neg (show ¬ (b : Int) < 0 by omega), if_pos (show 0 ≤ (b : Int) by omega), if_pos (show (b : Int) < cs.length by omega), if_pos (show (b : Int) < l.length by omega), if_neg e', inc hi (by omega)]
            exact q3 r hr
          · apply Ev.succ
            have e' := e
            unfold nown at e'
            simp only [impl_NeedySequence.l1, if_pos (show (i : Int) < l.length by omega), if_pos (show 0 ≤ (i : Int) by omega), if_pos (show (i : Int) < cs.length by omega), nrd, if_pos c, if_neg (show ¬ (b : Int) < 0 by omega), nown, if_neg e', inc hi (by omega)]
            exact q4 r hr
    · obtain ⟨b', m, q1, q2, q3, q4⟩ := ih (i + 1) best least (by omega) (by
        rcases h with ⟨rfl, j, h1, h2, h3⟩ | h
        · refine .inl ⟨rfl, j, ?_, h2, h3⟩
          rcases Nat.lt_or_ge i j with hh | hh
          · omega
          · have : i = j := by omega
            subst this
            exact absurd h3 c
        · exact .inr h)
      refine ⟨b', m, q1, q2, fun r hr => ?_, fun r hr => ?_⟩
      · apply Ev.succ
        simp only [spec_NeedySequence.l1, if_pos (show (i : Int) < l.length by omega), if_pos (show 0 ≤ (i : Int) by omega), if_pos (show (i : Int) < cs.length by omega), nrd, if_neg c, inc hi (by omega)]
        exact q3 r hr
      · apply Ev.succ
        simp only [impl_NeedySequence.l1, if_pos (show (i : Int) < l.length by omega), if_pos (show 0 ≤ (i : Int) by omega), if_pos (show (i : Int) < cs.length by omega), nrd, if_neg c, inc hi (by omega)]
        exact q4 r hr
theorem ns_out (l : List Int) (hl : l.length ≤ 6) (hp : ∀ n ∈ l, 1 ≤ n ∧ n ≤ 40) : ∀ (d : Nat) (k : Int) (cs out : List Int), cs.length = l.length → (∀ j : Nat, j < l.length → 0 ≤ cs.getD j 0 ∧ cs.getD j 0 ≤ l.getD j 0) → cs.sum = k - 1 → 1 ≤ k → k + d = l.sum + 1 → out.length + d ≤ 1000 → ∃ r : List Int, Ev (fun q => spec_NeedySequence.l0 q l l.sum cs out k) (r, true) ∧ Ev (fun q => impl_NeedySequence.l0 q l cs out l.sum k) (r, true) ∧ r.length ≤ 1000 := by
  have hb := sum_bounds l hp
  have hb2 : 0 ≤ l.sum ∧ l.sum ≤ 240 := ⟨hb.1, by omega⟩
  intro d
  induction d with
  | zero =>
    intro k cs out h1 h2 h3 h4 h5 h6
    refine ⟨out, ?_, ?_, by omega⟩
    · apply Ev.succ
      simp only [spec_NeedySequence.l0, if_neg (show ¬ k ≤ l.sum by omega)]
      exact Ev.now _
    · apply Ev.succ
      simp only [impl_NeedySequence.l0, if_neg (show ¬ k ≤ l.sum by omega)]
      exact Ev.now _
  | succ d ih =>
    intro k cs out h1 h2 h3 h4 h5 h6
    have ex : ∃ j : Nat, 0 ≤ j ∧ j < l.length ∧ cs.getD j 0 < l.getD j 0 := by
      refine Classical.byContradiction fun hn => ?_
      have := sum_le_of l cs h1 (fun j hj => by
        refine Classical.byContradiction fun h => hn ⟨j, Nat.zero_le _, hj, by omega⟩)
      omega
    obtain ⟨b, m, q1, q2, q3, q4⟩ := ns_in l cs out l.sum k h1 hl l.length 0 (-1) 0 (by omega) (.inl ⟨rfl, ex⟩)
    have hlb : l.getD b 0 ≤ 40 := by
      have := hp (l.getD b 0) (by simp [List.getD_eq_getElem?_getD, q1])
      exact this.2
    have hcb := h2 b q1
    obtain ⟨r, r1, r2, r3⟩ := ih (k + 1) (cs.set b (cs.getD b 0 + 1)) (out ++ [(b : Int)]) (by simp [h1]) (fun j hj => by
        have e : (cs.set b (cs.getD b 0 + 1)).getD j 0 = if b = j then cs.getD b 0 + 1 else cs.getD j 0 := by
          simp only [List.getD_eq_getElem?_getD, List.getElem?_set]
          by_cases e : b = j
          · subst e; simp [h1, q1]
          · simp [e]
        rw [e]
        split
        · rename_i e2; subst e2; omega
        · exact h2 j hj) (by rw [sum_setD _ _ _ (by omega)]; omega) (by omega) (by omega) (by simp; omega)
    refine ⟨r, ?_, ?_, r3⟩
    · apply Ev.succ
      simp only [spec_NeedySequence.l0, if_pos (show k ≤ l.sum by omega)]
      refine q3 _ ?_
      apply Ev.succ
      simp only [spec_NeedySequence.l1, if_neg (show ¬ (l.length : Int) < l.length by omega), if_pos (show 0 ≤ (b : Int) by omega), if_pos (show (b : Int) < cs.length by omega), if_pos (show out.length < 17592186044416 by omega), nrd, Int.toNat_natCast, w64 (show (-9223372036854775808) ≤ cs.getD b 0 + 1 by omega) (by omega), w64 (show (-9223372036854775808) ≤ k + 1 by omega) (by omega)]
      exact r1
    · apply Ev.succ
      simp only [impl_NeedySequence.l0, if_pos (show k ≤ l.sum by omega)]
      refine q4 _ ?_
      apply Ev.succ
      simp only [impl_NeedySequence.l1, if_neg (show ¬ (l.length : Int) < l.length by omega), if_pos (show 0 ≤ (b : Int) by omega), if_pos (show (b : Int) < cs.length by omega), if_pos (show out.length < 17592186044416 by omega), nrd, Int.toNat_natCast, w64 (show (-9223372036854775808) ≤ cs.getD b 0 + 1 by omega) (by omega), w64 (show (-9223372036854775808) ≤ k + 1 by omega) (by omega)]
      exact r2
theorem ns_top (l : List Int) (hm : l.length ≤ 1048576) : ∃ r : List Int × Bool, Ev (fun k => spec_NeedySequence.f k l) r ∧ Ev (fun k => impl_NeedySequence.f k l) r ∧ r.1.length ≤ 1000 := by
  unfold spec_NeedySequence.f impl_NeedySequence.f
  cases h : VD l with
  | false =>
    refine ⟨([], false), ?_, ?_, by simp⟩
    · refine Ev.bind ((l08Is_ev l).to h) ?_
      simp only [Bool.false_eq_true, if_false]
      exact Ev.now _
    · refine Ev.bind ((iVD_ev l (by omega)).to h) ?_
      simp only [Bool.false_eq_true, if_false]
      exact Ev.now _
  | true =>
    have h' := h
    simp only [VD, Bool.and_eq_true, decide_eq_true_eq, List.all_eq_true] at h'
    obtain ⟨⟨h1, h2⟩, h3⟩ := h'
    have hs : wsum 0 l = l.sum := by
      rw [wsum_eq 40 l 0 (fun x hx => by have := h2 x hx; omega) (by omega) (by omega) (by omega)]; omega
    have hb := sum_bounds l h2
    have hz : (List.replicate l.length (0 : Int)).sum = 0 := by
      generalize l.length = n
      induction n with
      | zero => rfl
      | succ n ih => rw [List.replicate_succ, List.sum_cons, ih]; rfl
    have hg : ∀ j : Nat, (List.replicate l.length (0 : Int)).getD j 0 = 0 := by
      intro j
      simp only [List.getD_eq_getElem?_getD, List.getElem?_replicate]
      split <;> rfl
    obtain ⟨r, r1, r2, r3⟩ := ns_out l (by omega) h2 l.sum.toNat 1 (List.replicate l.length 0) [] (by simp) (fun j hj => by
      have := h2 (l.getD j 0) (by simp [List.getD_eq_getElem?_getD, hj])
      rw [hg]; omega) (by rw [hz]; omega) (by omega) (by omega) (by simp; omega)
    refine ⟨(r, true), ?_, ?_, r3⟩
    · refine Ev.bind ((l08Is_ev l).to h) ?_
      simp only [if_true]
      refine Ev.bind (ssum_ev l (by omega)) ?_
      simp only [hs, if_pos (show 0 ≤ (l.length : Int) by omega), Int.toNat_natCast, if_pos (show l.length ≤ 35184372088832 by omega)]
      exact r1
    · refine Ev.bind ((iVD_ev l (by omega)).to h) ?_
      simp only [if_true, if_pos (show 0 ≤ (l.length : Int) by omega), Int.toNat_natCast, if_pos (show l.length ≤ 35184372088832 by omega)]
      refine Ev.bind (isum_ev l (by omega)) ?_
      simp only [hs]
      exact r2
theorem FnExactNeedySequence : laws_FnExactNeedySequence.Pure := by
  intro l hl _ _
  apply Ev.rounds
  unfold laws_FnExactNeedySequence.f
  by_cases hm : (l.length : Int) > 1048576
  · simp only [if_pos hm]
    exact Ev.now _
  · simp only [if_neg hm]
    have ht := toInt64S_ev l (by omega)
    obtain ⟨r, hs, hi, hr⟩ := ns_top l (by omega)
    have he := eqInt64S_ev r.1 r.1 (by omega)
    have hh := heldInt64S_ev 1 r.1.length (by omega) (by omega) (by omega)
    refine Ev.bind ht (Ev.bind hs (Ev.bind ht (Ev.bind hi (Ev.bind he ?_))))
    simp only [decide_true, if_true, bne_self_eq_false]
    apply Ev.succ
    simp only [laws_FnExactNeedySequence.j0, Bool.false_eq_true, if_false]
    refine Ev.bind ht (Ev.bind (eqInt64S_ev l l (by omega)) ?_)
    simp only [decide_true, if_true]
    refine Ev.bind (markInt64S_ev l 1 (by omega) (by omega) (by omega)) ?_
    simp only [if_neg (show ¬ (1 + (l.length : Int)) < 0 by omega)]
    refine Ev.bind he ?_
    simp only [decide_true, if_true, bne_self_eq_false]
    apply Ev.succ
    simp only [laws_FnExactNeedySequence.j1, Bool.false_eq_true, if_false]
    refine Ev.bind (markInt64S_ev r.1 1 (by omega) (by omega) (by omega)) (Ev.bind hh ?_)
    simp only [if_neg (show ¬ (1 + (r.1.length : Int)) < 0 by omega), if_true]
    refine Ev.bind ht (Ev.bind hi (Ev.bind he ?_))
    simp only [decide_true, if_true, bne_self_eq_false]
    apply Ev.succ
    simp only [laws_FnExactNeedySequence.j2, Bool.false_eq_true, if_false]
    refine Ev.bind hh ?_
    simp only [if_neg (show ¬ (1 + (r.1.length : Int)) < 0 by omega), if_true]
    exact Ev.now _


end Go.Proofs.Ytggnpbcekiojdaa.Pure
