/- Proved: the pure half of the law FnExactValidDemands: the printed functions answer true, for every input. No condition. -/
import Derived.Test.YtggnpbcekiojdaaPFnExactValidDemandsx2
import Derived.Test.YtggnpbcekiojdaaBase
namespace Go.Proofs.Ytggnpbcekiojdaa.Pure
open Go.RowKit Go.Proofs.Ytggnpbcekiojdaa.PFnExactValidDemands Go.Proofs.YtggnpbcekiojdaaW.PrintWords Go.Proofs.YtggnpbcekiojdaaW.PrintLast Go.Proofs.YtggnpbcekiojdaaW.PrintMore Go.Proofs.Ytggnpbcekiojdaa.Base
set_option linter.unusedVariables false
set_option linter.unusedSimpArgs false

/-! laws.eqInt64S -/
theorem eq_l0 (a b : List Int) (hl : a.length = b.length) (hm : a.length ≤ 9223372036854775806) : ∀ (d i : Nat), d + i = a.length → Ev (fun k => laws_eqInt64S.l0 k a b i) (decide (a.drop i = b.drop i)) := by
  intro d
  induction d with
  | zero =>
    intro i hd
    apply Ev.succ
    simp only [laws_eqInt64S.l0, if_neg (show ¬ (i : Int) < (a.length : Int) by omega)]
    rw [List.drop_of_length_le (by omega), List.drop_of_length_le (by omega)]
    exact Ev.now _
  | succ d ih =>
    intro i hd
    have hi : i < a.length := by omega
    have hi' : i < b.length := by omega
    apply Ev.succ
    simp only [laws_eqInt64S.l0, if_pos (show (i : Int) < (a.length : Int) by omega), if_pos (show 0 ≤ (i : Int) by omega), if_pos (show (i : Int) < (b.length : Int) by omega), rd_get hi, rd_get hi', w64 (show (-9223372036854775808) ≤ (i : Int) + 1 by omega) (by omega)]
    rw [List.drop_eq_getElem_cons hi, List.drop_eq_getElem_cons hi']
    by_cases h : a[i] = b[i]
    · simp only [if_pos h]
      exact (ih (i + 1) (by omega)).to (by simp only [List.cons.injEq, h, true_and])
    · simp only [if_neg h]
      exact (Ev.now _).to (by simp only [List.cons.injEq, h, false_and, decide_false])
theorem eqInt64S_ev (a b : List Int) (hm : a.length ≤ 9223372036854775806) : Ev (fun k => laws_eqInt64S.f k a b) (decide (a = b)) := by
  unfold laws_eqInt64S.f
  by_cases h : a.length = b.length
  · simp only [if_pos (show (a.length : Int) = (b.length : Int) by omega)]
    simpa using eq_l0 a b h hm a.length 0 (by omega)
  · simp only [if_neg (show ¬ (a.length : Int) = (b.length : Int) by omega)]
    exact (Ev.now _).to (by symm; simp; intro e; exact h (by rw [e]))

/-! spec.l00In -/
theorem in_eq (a b c : Int) : spec_l00In.f a b c = some (decide (b ≤ a ∧ a ≤ c)) := by
  unfold spec_l00In.f
  by_cases h : b ≤ a
  · rw [if_pos (show a ≥ b from h)]; simp [h]
  · rw [if_neg (show ¬ a ≥ b from h)]; simp [h]

/-! spec.l00Min -/
theorem min_eq (a b : Int) : spec_l00Min.f a b = some (min a b) := by
  unfold spec_l00Min.f
  by_cases h : a < b
  · rw [if_pos h, Int.min_eq_left (by omega)]
  · rw [if_neg h, Int.min_eq_right (by omega)]

/-! spec.l08Is -/

def le5 (x : Int) : Bool := decide (x ≤ 5000)
theorem le5_no {x : Int} (h : ¬ x ≤ 5000) : le5 x = false := decide_eq_false h
def VD (l : List Int) : Bool := decide (1 ≤ (l.length : Int) ∧ (l.length : Int) ≤ 6) && (l.all fun n => decide (1 ≤ n ∧ n ≤ 40)) && le5 (l.foldl (fun s d => s * (d + 1)) 1)
theorem foldl_ge (l : List Int) : ∀ (s : Int), 0 < s → (∀ n ∈ l, 1 ≤ n ∧ n ≤ 40) → s ≤ l.foldl (fun s d => s * (d + 1)) s := by
  induction l with
  | nil => intro s _ _; exact Int.le_refl _
  | cons d l ih =>
    intro s hs h
    have hd := h d List.mem_cons_self
    have h1 : s * 1 ≤ s * (d + 1) := Int.mul_le_mul_of_nonneg_left (by omega) (by omega)
    exact Int.le_trans (by omega) (ih (s * (d + 1)) (by omega) (fun n hn => h n (List.mem_cons_of_mem _ hn)))
theorem vd_l0 (l : List Int) (hl : l.length ≤ 6) : ∀ (d i : Nat) (s : Int), d + i = l.length → 1 ≤ s → s ≤ 5001 → Ev (fun k => spec_l08Is.l0 k l s i) (((l.drop i).all fun n => decide (1 ≤ n ∧ n ≤ 40)) && le5 ((l.drop i).foldl (fun s d => s * (d + 1)) s)) := by
  intro d
  induction d with
  | zero =>
    intro i s hd h1 h2
    apply Ev.succ
    simp only [spec_l08Is.l0, if_neg (show ¬ (i : Int) < (l.length : Int) by omega)]
    rw [List.drop_of_length_le (by omega)]
    exact (Ev.now _).to rfl
  | succ d ih =>
    intro i s hd h1 h2
    have hi : i < l.length := by omega
    apply Ev.succ
    simp only [spec_l08Is.l0, if_pos (show (i : Int) < (l.length : Int) by omega), if_pos (show 0 ≤ (i : Int) by omega), rd_get hi, in_eq, Option.bind_some, min_eq, w64 (show (-9223372036854775808) ≤ (i : Int) + 1 by omega) (by omega)]
    rw [List.drop_eq_getElem_cons hi]
    by_cases h : 1 ≤ l[i] ∧ l[i] ≤ 40
    · have p1 : s * 2 ≤ s * (l[i] + 1) := Int.mul_le_mul_of_nonneg_left (by omega) (by omega)
      have p2 : s * (l[i] + 1) ≤ s * 41 := Int.mul_le_mul_of_nonneg_left (by omega) (by omega)
      simp only [decide_eq_true h, if_true, w64 (show (-9223372036854775808) ≤ l[i] + 1 by omega) (by omega), w64 (show (-9223372036854775808) ≤ s * (l[i] + 1) by omega) (by omega), List.all_cons, Bool.true_and, List.foldl_cons]
      by_cases hm : s * (l[i] + 1) ≤ 5001
      · rw [Int.min_eq_left hm]
        exact ih (i + 1) _ (by omega) (by omega) hm
      · rw [Int.min_eq_right (by omega)]
        refine (ih (i + 1) 5001 (by omega) (by omega) (by omega)).to ?_
        by_cases ha : (l.drop (i + 1)).all (fun n => decide (1 ≤ n ∧ n ≤ 40)) = true
        · rw [ha, Bool.true_and, Bool.true_and]
          have ha' : ∀ n ∈ l.drop (i + 1), 1 ≤ n ∧ n ≤ 40 := by simpa using ha
          have g1 := foldl_ge _ 5001 (by omega) ha'
          have g2 := foldl_ge _ (s * (l[i] + 1)) (by omega) ha'
          rw [le5_no (by omega), le5_no (by omega)]
        · rw [Bool.eq_false_iff.2 ha, Bool.false_and, Bool.false_and]
    · simp only [decide_eq_false h, if_false, List.all_cons, Bool.false_and, Bool.false_eq_true]
      exact Ev.now _
theorem l08Is_ev (l : List Int) : Ev (fun k => spec_l08Is.f k l) (VD l) := by
  simp only [spec_l08Is.f, in_eq, Option.bind_some, VD]
  by_cases h : 1 ≤ (l.length : Int) ∧ (l.length : Int) ≤ 6
  · simp only [decide_eq_true h, if_true, Bool.true_and]
    have := vd_l0 l (by omega) l.length 0 1 (by omega) (by omega) (by omega)
    simpa using this
  · simp only [decide_eq_false h, if_false, Bool.false_and, Bool.false_eq_true]
    exact Ev.now _

/-! spec.ValidDemands -/
theorem sVD_ev (l : List Int) : Ev (fun k => spec_ValidDemands.f k l) (VD l) := by
  unfold spec_ValidDemands.f
  exact Ev.bind (l08Is_ev l) (Ev.now _)

/-! laws.toInt64S -/
theorem to_step (l : List Int) (i : Nat) (hi : i < l.length) : (l.take i ++ List.replicate (l.length - i) 0).set i l[i] = l.take (i + 1) ++ List.replicate (l.length - (i + 1)) 0 := by
  rw [show l.length - i = (l.length - (i + 1)) + 1 by omega, List.replicate_succ, List.set_append, if_neg (by simp; omega), List.length_take, Nat.min_eq_left (by omega), Nat.sub_self, List.set_cons_zero, List.take_succ_eq_append_getElem hi, List.append_assoc]
  rfl
theorem to_l0 (l : List Int) (hl : l.length ≤ 35184372088832) : ∀ (d i : Nat), d + i = l.length → Ev (fun k => laws_toInt64S.l0 k l (l.take i ++ List.replicate (l.length - i) 0) i) l := by
  intro d
  induction d with
  | zero =>
    intro i hd
    apply Ev.succ
    simp only [laws_toInt64S.l0, if_neg (show ¬ (i : Int) < (l.length : Int) by omega)]
    rw [List.take_of_length_le (by omega), show l.length - i = 0 by omega]
    simpa using Ev.now l
  | succ d ih =>
    intro i hd
    have hi : i < l.length := by omega
    apply Ev.succ
    simp only [laws_toInt64S.l0, if_pos (show (i : Int) < (l.length : Int) by omega), if_pos (show 0 ≤ (i : Int) by omega), if_pos (show (i : Int) < ((l.take i ++ List.replicate (l.length - i) (0 : Int)).length : Int) by simp; omega), rd_get hi, w64 (show (-9223372036854775808) ≤ (i : Int) + 1 by omega) (by omega), Int.toNat_natCast, to_step l i hi]
    exact ih (i + 1) (by omega)
theorem toInt64S_ev (l : List Int) (hl : l.length ≤ 35184372088832) : Ev (fun k => laws_toInt64S.f k l) l := by
  simp only [laws_toInt64S.f, if_pos (show 0 ≤ (l.length : Int) by omega), Int.toNat_natCast, if_pos hl]
  have := to_l0 l hl l.length 0 (by omega)
  simpa using this

/-! impl.within -/
theorem within_eq (a b c : Int) : impl_within.f a b c = some (decide (b ≤ a ∧ a ≤ c)) := by
  unfold impl_within.f
  by_cases h : b ≤ a
  · rw [if_pos h]; simp [h]
  · rw [if_neg h]; simp [h]

/-! impl.areWithin -/
theorem aw_l0 (l : List Int) (a b : Int) (hl : l.length ≤ 9223372036854775806) : ∀ (d i : Nat), d + i = l.length → ∃ r : Int, Ev (fun k => slices_IndexFunc_int64_int64_impl_areWithin_1.l0 k l (l.length : Int) i a b) r ∧ (decide (r ≥ 0) = !(l.drop i).all fun n => decide (a ≤ n ∧ n ≤ b)) := by
  intro d
  induction d with
  | zero =>
    intro i hd
    refine ⟨-1, ?_, ?_⟩
    · apply Ev.succ
      simp only [slices_IndexFunc_int64_int64_impl_areWithin_1.l0, if_neg (show ¬ (i : Int) < (l.length : Int) by omega)]
      exact Ev.now _
    · rw [List.drop_of_length_le (by omega)]; rfl
  | succ d ih =>
    intro i hd
    have hi : i < l.length := by omega
    obtain ⟨r, hr, he⟩ := ih (i + 1) (by omega)
    by_cases h : a ≤ l[i] ∧ l[i] ≤ b
    · refine ⟨r, ?_, ?_⟩
      · apply Ev.succ
        simp only [slices_IndexFunc_int64_int64_impl_areWithin_1.l0, if_pos (show (i : Int) < (l.length : Int) by omega), if_pos (show 0 ≤ (i : Int) by omega), rd_get hi, impl_areWithin_1.f, within_eq, decide_eq_true h, Option.bind_some, w64 (show (-9223372036854775808) ≤ (i : Int) + 1 by omega) (by omega)]
        simpa using hr
      · rw [he, List.drop_eq_getElem_cons hi, List.all_cons, decide_eq_true h, Bool.true_and]
    · refine ⟨i, ?_, ?_⟩
      · apply Ev.succ
        simp only [slices_IndexFunc_int64_int64_impl_areWithin_1.l0, if_pos (show (i : Int) < (l.length : Int) by omega), if_pos (show 0 ≤ (i : Int) by omega), rd_get hi, impl_areWithin_1.f, within_eq, decide_eq_false h, Option.bind_some]
        simpa using Ev.now _
      · rw [List.drop_eq_getElem_cons hi, List.all_cons, decide_eq_false h, Bool.false_and]; simp
theorem areWithin_ev (l : List Int) (a b : Int) (hl : l.length ≤ 9223372036854775806) : Ev (fun k => impl_areWithin.f k l a b) (l.all fun n => decide (a ≤ n ∧ n ≤ b)) := by
  obtain ⟨r, hr, he⟩ := aw_l0 l a b hl l.length 0 (by omega)
  unfold impl_areWithin.f
  simp only [slices_ContainsFunc_int64_int64_impl_areWithin_1.f, slices_IndexFunc_int64_int64_impl_areWithin_1.f]
  refine Ev.bind (Ev.bind hr (Ev.now _)) ?_
  refine (Ev.now _).to ?_
  rw [he, List.drop_zero, Bool.not_not]

/-! impl.ValidDemands -/
theorem foldl_lt (l : List Int) : ∀ (s m : Int), 0 < s → s ≤ m → (∀ n ∈ l, 1 ≤ n ∧ n ≤ 40) → l.foldl (fun s d => s * (d + 1)) s ≤ m * 41 ^ l.length := by
  induction l with
  | nil => intro s m _ h _; simpa using h
  | cons d l ih =>
    intro s m hs hm h
    have hd := h d List.mem_cons_self
    have h1 : s * 1 ≤ s * (d + 1) := Int.mul_le_mul_of_nonneg_left (by omega) (by omega)
    have h2 : s * (d + 1) ≤ s * 41 := Int.mul_le_mul_of_nonneg_left (by omega) (by omega)
    have := ih (s * (d + 1)) (m * 41) (by omega) (by omega) (fun n hn => h n (List.mem_cons_of_mem _ hn))
    rw [List.foldl_cons, List.length_cons, Int.pow_succ', ← Int.mul_assoc]
    exact this
theorem ivd_l0 (l : List Int) (hl : l.length ≤ 6) (ha : ∀ n ∈ l, 1 ≤ n ∧ n ≤ 40) : ∀ (d i : Nat) (s : Int), d + i = l.length → 1 ≤ s → s ≤ 41 ^ i → Ev (fun k => impl_ValidDemands.l0 k s l (l.length : Int) i) (le5 ((l.drop i).foldl (fun s d => s * (d + 1)) s)) := by
  intro d
  induction d with
  | zero =>
    intro i s hd h1 h2
    apply Ev.succ
    simp only [impl_ValidDemands.l0, if_neg (show ¬ (i : Int) < (l.length : Int) by omega)]
    rw [List.drop_of_length_le (by omega)]
    exact (Ev.now _).to rfl
  | succ d ih =>
    intro i s hd h1 h2
    have hi : i < l.length := by omega
    have hx := ha l[i] (List.getElem_mem hi)
    have p1 : s * 2 ≤ s * (l[i] + 1) := Int.mul_le_mul_of_nonneg_left (by omega) (by omega)
    have p2 : s * (l[i] + 1) ≤ s * 41 := Int.mul_le_mul_of_nonneg_left (by omega) (by omega)
    have p3 : s * 41 ≤ 41 ^ i * 41 := Int.mul_le_mul_of_nonneg_right h2 (by omega)
    have p4 : (41 : Int) ^ i * 41 ≤ 41 ^ 6 := by
      rw [← Int.pow_succ]
      have hle : i + 1 ≤ 6 := by omega
      have : ∀ j : Fin 7, (41 : Int) ^ j.val ≤ 41 ^ 6 := by decide
      exact this ⟨i + 1, by omega⟩
    have p5 : (41 : Int) ^ 6 = 4750104241 := by decide
    apply Ev.succ
    simp only [impl_ValidDemands.l0, if_pos (show (i : Int) < (l.length : Int) by omega), if_pos (show 0 ≤ (i : Int) by omega), rd_get hi, w64 (show (-9223372036854775808) ≤ (i : Int) + 1 by omega) (by omega), w64 (show (-9223372036854775808) ≤ l[i] + 1 by omega) (by omega), w64 (show (-9223372036854775808) ≤ s * (l[i] + 1) by omega) (by omega)]
    rw [List.drop_eq_getElem_cons hi, List.foldl_cons]
    exact ih (i + 1) _ (by omega) (by omega) (by rw [Int.pow_succ]; omega)
theorem iVD_ev (l : List Int) (hl : l.length ≤ 9223372036854775806) : Ev (fun k => impl_ValidDemands.f k l) (VD l) := by
  simp only [impl_ValidDemands.f, impl_size_int64.f, Option.bind_some, within_eq, VD]
  by_cases h : 1 ≤ (l.length : Int) ∧ (l.length : Int) ≤ 6
  · simp only [decide_eq_true h, if_true, Bool.true_and]
    refine Ev.bind (areWithin_ev l 1 40 hl) ?_
    cases ha : (l.all fun n => decide (1 ≤ n ∧ n ≤ 40)) with
    | true =>
      have ha' : ∀ n ∈ l, 1 ≤ n ∧ n ≤ 40 := by simpa using ha
      apply Ev.succ
      simp only [impl_ValidDemands.j0, Bool.not_true, if_neg (show ¬ (false = true) by decide), Bool.true_and]
      have := ivd_l0 l (by omega) ha' l.length 0 1 (by omega) (by omega) (by decide)
      simpa using this
    | false =>
      apply Ev.succ
      simp only [impl_ValidDemands.j0, Bool.not_false, if_true, Bool.false_and]
      exact Ev.now _
  · simp only [decide_eq_false h, if_neg (show ¬ (false = true) by decide), Bool.false_and]
    apply Ev.succ
    simp only [impl_ValidDemands.j0, if_true]
    exact Ev.now _

/-! the law -/
theorem FnExactValidDemands : laws_FnExactValidDemands.Pure := by
  intro l h1 h2 h3
  apply Ev.rounds
  unfold laws_FnExactValidDemands.f
  by_cases hb : (l.length : Int) > 1048576
  · simp only [if_pos hb]
    exact Ev.now _
  · simp only [if_neg hb]
    have hl : l.length ≤ 1048576 := by omega
    refine Ev.bind (toInt64S_ev l (by omega)) (Ev.bind (sVD_ev l) (Ev.bind (toInt64S_ev l (by omega)) (Ev.bind (iVD_ev l (by omega)) ?_)))
    simp only [bne_self_eq_false, Bool.false_eq_true, if_false]
    refine Ev.bind (toInt64S_ev l (by omega)) (Ev.bind (eqInt64S_ev l l (by omega)) ?_)
    simp only [decide_true, if_true]
    exact Ev.now _


end Go.Proofs.Ytggnpbcekiojdaa.Pure
