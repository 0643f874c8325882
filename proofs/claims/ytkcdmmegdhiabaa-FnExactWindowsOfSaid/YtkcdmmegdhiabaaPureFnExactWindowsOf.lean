/- Proved: the pure half of the law FnExactWindowsOf: the printed functions answer true, for every input. No condition. -/
import Derived.Test.YtkcdmmegdhiabaaPFnExactWindowsOfx5
import Derived.Test.YtkcdmmegdhiabaaBase
import Derived.Test.YtkcdmmegdhiabaaLists
import Derived.Test.YtkcdmmegdhiabaaTime
import Derived.Test.YtkcdmmegdhiabaaCeil
import Derived.Test.YtkcdmmegdhiabaaWindows
import Derived.Test.YtkcdmmegdhiabaaMarks
import Derived.Test.YtkcdmmegdhiabaaMarksS
namespace Go.Proofs.Ytkcdmmegdhiabaa.Pure
open Go.RowKit Go.Proofs.Ytkcdmmegdhiabaa.PFnExactWindowsOf Go.Proofs.YtkcdmmegdhiabaaW.PrintWords Go.Proofs.YtkcdmmegdhiabaaW.PrintLast Go.Proofs.YtkcdmmegdhiabaaW.PrintMore Go.Proofs.Ytkcdmmegdhiabaa.Base
set_option linter.unusedVariables false
set_option linter.unusedSimpArgs false

/-! spec.l00In -/
theorem in_eq (a b c : Int) : spec_l00In.f a b c = some (decide (b ≤ a ∧ a ≤ c)) := by
  unfold spec_l00In.f
  by_cases h : b ≤ a
  · rw [if_pos (show a ≥ b from h)]; simp [h]
  · rw [if_neg (show ¬ a ≥ b from h)]; simp [h]

/-! spec.l00Min -/
theorem min_eq (a b : Int) : spec_l00Min.f a b = some (min a b) := by
  unfold spec_l00Min.f
  by_cases h : a < b
  · rw [if_pos h, Int.min_eq_left (by omega)]
  · rw [if_neg h, Int.min_eq_right (by omega)]

/-! spec.l08Is -/

theorem vd_l0 (l : List Int) (hl : l.length ≤ 6) : ∀ (d i : Nat) (s : Int), d + i = l.length → 1 ≤ s → s ≤ 5001 → Ev (fun k => spec_l08Is.l0 k l s i) (((l.drop i).all fun n => decide (1 ≤ n ∧ n ≤ 40)) && le5 ((l.drop i).foldl (fun s d => s * (d + 1)) s)) := by
  intro d
  induction d with
  | zero =>
    intro i s hd h1 h2
    apply Ev.succ
    simp only [spec_l08Is.l0, if_neg (show ¬ (i : Int) < (l.length : Int) by omega)]
    rw [List.drop_of_length_le (by omega)]
    exact (Ev.now _).to rfl
  | succ d ih =>
    intro i s hd h1 h2
    have hi : i < l.length := by omega
    apply Ev.succ
    simp only [spec_l08Is.l0, if_pos (show (i : Int) < (l.length : Int) by omega), if_pos (show 0 ≤ (i : Int) by omega), rd_get hi, in_eq, Option.bind_some, min_eq, w64 (show (-9223372036854775808) ≤ (i : Int) + 1 by omega) (by omega)]
    rw [List.drop_eq_getElem_cons hi]
    by_cases h : 1 ≤ l[i] ∧ l[i] ≤ 40
    · have p1 : s * 2 ≤ s * (l[i] + 1) := Int.mul_le_mul_of_nonneg_left (by omega) (by omega)
      have p2 : s * (l[i] + 1) ≤ s * 41 := Int.mul_le_mul_of_nonneg_left (by omega) (by omega)
      simp only [decide_eq_true h, if_true, w64 (show (-9223372036854775808) ≤ l[i] + 1 by omega) (by omega), w64 (show (-9223372036854775808) ≤ s * (l[i] + 1) by omega) (by omega), List.all_cons, Bool.true_and, List.foldl_cons]
      by_cases hm : s * (l[i] + 1) ≤ 5001
      · rw [Int.min_eq_left hm]
        exact ih (i + 1) _ (by omega) (by omega) hm
      · rw [Int.min_eq_right (by omega)]
        refine (ih (i + 1) 5001 (by omega) (by omega) (by omega)).to ?_
        by_cases ha : (l.drop (i + 1)).all (fun n => decide (1 ≤ n ∧ n ≤ 40)) = true
        · rw [ha, Bool.true_and, Bool.true_and]
          have ha' : ∀ n ∈ l.drop (i + 1), 1 ≤ n ∧ n ≤ 40 := by simpa using ha
          have g1 := foldl_ge _ 5001 (by omega) ha'
          have g2 := foldl_ge _ (s * (l[i] + 1)) (by omega) ha'
          rw [le5_no (by omega), le5_no (by omega)]
        · rw [Bool.eq_false_iff.2 ha, Bool.false_and, Bool.false_and]
    · simp only [decide_eq_false h, if_false, List.all_cons, Bool.false_and, Bool.false_eq_true]
      exact Ev.now _
theorem l08Is_ev (l : List Int) : Ev (fun k => spec_l08Is.f k l) (VD l) := by
  simp only [spec_l08Is.f, in_eq, Option.bind_some, VD]
  by_cases h : 1 ≤ (l.length : Int) ∧ (l.length : Int) ≤ 6
  · simp only [decide_eq_true h, if_true, Bool.true_and]
    have := vd_l0 l (by omega) l.length 0 1 (by omega) (by omega) (by omega)
    simpa using this
  · simp only [decide_eq_false h, if_false, Bool.false_and, Bool.false_eq_true]
    exact Ev.now _

/-! spec.l01Sum -/
theorem ssum_l0 (l : List Int) (hl : l.length ≤ 9223372036854775806) : ∀ (d i : Nat) (acc : Int), d + i = l.length → Ev (fun k => spec_l01Sum.l0 k l acc i) (wsum acc (l.drop i)) := by
  intro d
  induction d with
  | zero =>
    intro i acc hd
    apply Ev.succ
    simp only [spec_l01Sum.l0, if_neg (show ¬ (i : Int) < (l.length : Int) by omega)]
    rw [List.drop_of_length_le (by omega)]
    exact Ev.now _
  | succ d ih =>
    intro i acc hd
    have hi : i < l.length := by omega
    apply Ev.succ
    simp only [spec_l01Sum.l0, if_pos (show (i : Int) < (l.length : Int) by omega), if_pos (show 0 ≤ (i : Int) by omega), rd_get hi, w64 (show (-9223372036854775808) ≤ (i : Int) + 1 by omega) (by omega)]
    rw [List.drop_eq_getElem_cons hi]
    exact ih (i + 1) _ (by omega)
theorem ssum_ev (l : List Int) (hl : l.length ≤ 9223372036854775806) : Ev (fun k => spec_l01Sum.f k l) (wsum 0 l) := by
  have := ssum_l0 l hl l.length 0 0 (by omega)
  simpa [spec_l01Sum.f] using this

/-! spec.l08Bound -/
theorem bound_ev (ds : List Int) (B : Int) (hds : ds.length ≤ 1048576) : Ev (fun k => spec_l08Bound.f k ds B) (okB ds B) := by
  unfold spec_l08Bound.f okB
  refine Ev.bind (l08Is_ev ds) ?_
  cases h : VD ds with
  | false =>
    simp only [Bool.false_eq_true, if_false, Bool.false_and]
    exact Ev.now _
  | true =>
    obtain ⟨s1, s2, s3, _⟩ := vd_sum h
    have r := mul_range (a := ds.sum) (b := ds.sum) (A := 240) (B := 240) (by omega) s3 (by omega) s3
    simp only [if_true, Bool.true_and]
    refine Ev.bind (ssum_ev ds (by omega)) (Ev.bind (ssum_ev ds (by omega)) ?_)
    simp only [s1, w64 (show (-9223372036854775808) ≤ ds.sum * ds.sum by omega) (by omega), w64 (show (-9223372036854775808) ≤ ds.sum * ds.sum - 1 by omega) (by omega), in_eq, Option.bind_some]
    exact Ev.now _

/-! spec.l00Max -/
theorem max_eq (a b : Int) : spec_l00Max.f a b = some (max a b) := by
  unfold spec_l00Max.f
  by_cases h : a > b
  · rw [if_pos h, Int.max_eq_left (by omega)]
  · rw [if_neg h, Int.max_eq_right (by omega)]

/-! spec.l01Floor -/
theorem tdiv_mul_range {a b m : Int} (hb : 0 < b) (h1 : -m ≤ a) (h2 : a ≤ m) : -m ≤ a.tdiv b * b ∧ a.tdiv b * b ≤ m := by
  have h := ediv_bounds (a := a) hb
  rcases tdiv_cases (a := a) hb with ⟨e, _, h3⟩ | ⟨e, _, h3, h4⟩
  · rw [e]
    rcases h3 with h3 | h3
    · have : 0 ≤ a / b * b := Int.mul_nonneg (Int.ediv_nonneg h3 (by omega)) (by omega)
      omega
    · have := Int.emod_add_mul_ediv a b
      have h5 : b * (a / b) = (a / b) * b := Int.mul_comm _ _
      omega
  · have h5 : (a / b + 1) * b = a / b * b + b := by rw [Int.add_mul, Int.one_mul]
    have h6 : a / b < 0 := Int.ediv_neg_of_neg_of_pos h3 hb
    have h7 : (a / b + 1) * b ≤ 0 * b := Int.mul_le_mul_of_nonneg_right (by omega) (by omega)
    rw [e]
    omega
theorem sfloor_eq {a b : Int} (hb : 0 < b) (h1 : -9223372036854775807 ≤ a) (h2 : a ≤ 9223372036854775807) : spec_l01Floor.f a b = some (a / b) := by
  have r1 := tdiv_range hb h1 h2 (by omega)
  have r2 := tdiv_mul_range hb h1 h2
  have hf := floorA (a := a) hb
  have e1 : wrap64 (a.tdiv b) = a.tdiv b := w64 (by omega) (by omega)
  have e2 : wrap64 (a.tdiv b * b) = a.tdiv b * b := w64 (by omega) (by omega)
  unfold spec_l01Floor.f
  rw [if_neg (by omega), e1, e2]
  by_cases h : a.tdiv b * b > a
  · rw [if_pos h] at hf
    rw [if_pos h, w64 (by omega) (by omega), hf]
  · rw [if_neg h] at hf
    rw [if_neg h, hf]

/-! spec.l01Ceil -/
theorem ceil_eq {a b : Int} (hb : 0 < b) (hb2 : b ≤ 1000000) (h1 : -1000000000000 ≤ a) (h2 : a ≤ 1000000000000) : spec_l01Ceil.f a b = some (ceilOf a b) := by
  have hr := ceil_range (m := 1000000000000) hb h1 h2 (by omega)
  unfold spec_l01Ceil.f ceilOf
  rw [w64 (show (-9223372036854775808) ≤ -a by omega) (by omega), sfloor_eq hb (by omega) (by omega), Option.bind_some, w64 (by omega) (by omega)]

/-! spec.l08Windows -/
theorem swin_l1 (D B : Int) (x8 x9 : List (List Int)) (ds : List Int) (i : Nat) (hi : i < ds.length) (hds : ds.length ≤ 6) (h8 : x8.length = i) (h9 : x9.length = i) (hD : 1 ≤ D ∧ D ≤ 240) (hd : 1 ≤ ds[i] ∧ ds[i] ≤ 40) (hB : 0 ≤ B ∧ B ≤ 57600) {R : List (List Int) × List (List Int)}
    (hs : Ev (fun k => spec_l08Windows.l0 k ds B D (x8 ++ [earlyW D B ds[i]]) (x9 ++ [lateW D B ds[i]]) ((i : Int) + 1)) R) : ∀ (e j : Nat), e + j = ds[i].toNat → Ev (fun k => spec_l08Windows.l1 k ds B D x8 x9 i ((List.range j).map (early1 D B ds[i])) ((List.range j).map (late1 D B ds[i])) ((j : Int) + 1)) R := by
  intro e
  induction e with
  | zero =>
    intro j he
    apply Ev.succ
    simp only [spec_l08Windows.l1, if_pos (show 0 ≤ (i : Int) by omega), if_pos (show (i : Int) < ds.length by omega), rd_get hi, if_neg (show ¬ (j : Int) + 1 ≤ ds[i] by omega), if_pos (show x8.length < 5864062014805 by omega), if_pos (show x9.length < 5864062014805 by omega), inc hi (by omega)]
    rw [show j = ds[i].toNat by omega]
    exact hs
  | succ e ih =>
    intro j he
    have r1 := mul_range (a := D) (b := (j : Int) + 1) (A := 240) (B := 40) (by omega) (by omega) (by omega) (by omega)
    have r2 := mul_range (a := D) (b := (j : Int)) (A := 240) (B := 40) (by omega) (by omega) (by omega) (by omega)
    have r3 := ediv_range (a := B + D * (j : Int)) (b := ds[i]) (m := 100000) (by omega) (by omega) (by omega) (by omega)
    apply Ev.succ
    simp only [spec_l08Windows.l1, if_pos (show 0 ≤ (i : Int) by omega), if_pos (show (i : Int) < ds.length by omega), rd_get hi, if_pos (show (j : Int) + 1 ≤ ds[i] by omega), w64 (show (-9223372036854775808) ≤ D * ((j : Int) + 1) by omega) (by omega), w64 (show (-9223372036854775808) ≤ D * ((j : Int) + 1) - B by omega) (by omega), ceil_eq (show 0 < ds[i] by omega) (by omega) (show -1000000000000 ≤ D * ((j : Int) + 1) - B by omega) (by omega), Option.bind_some, max_eq, List.length_map, List.length_range, if_pos (show j < 17592186044416 by omega), show (j : Int) + 1 - 1 = j by omega, w64 (show (-9223372036854775808) ≤ (j : Int) by omega) (by omega), w64 (show (-9223372036854775808) ≤ D * (j : Int) by omega) (by omega), w64 (show (-9223372036854775808) ≤ B + D * (j : Int) by omega) (by omega), sfloor_eq (show 0 < ds[i] by omega) (show -9223372036854775807 ≤ B + D * (j : Int) by omega) (by omega), w64 (show (-9223372036854775808) ≤ (B + D * (j : Int)) / ds[i] + 1 by omega) (by omega), min_eq, w64 (show (-9223372036854775808) ≤ (j : Int) + 1 + 1 by omega) (by omega)]
    have := ih (j + 1) (by omega)
    rw [List.range_succ, List.map_append, List.map_append] at this
    exact this
theorem swin_l0 (D B : Int) (ds : List Int) (hds : ds.length ≤ 6) (hD : 1 ≤ D ∧ D ≤ 240) (hd : ∀ d ∈ ds, 1 ≤ d ∧ d ≤ 40) (hB : 0 ≤ B ∧ B ≤ 57600) : ∀ (e i : Nat), e + i = ds.length → Ev (fun k => spec_l08Windows.l0 k ds B D ((ds.take i).map (earlyW D B)) ((ds.take i).map (lateW D B)) i) (ds.map (earlyW D B), ds.map (lateW D B)) := by
  intro e
  induction e with
  | zero =>
    intro i he
    apply Ev.succ
    simp only [spec_l08Windows.l0, if_neg (show ¬ (i : Int) < ds.length by omega)]
    rw [List.take_of_length_le (by omega)]
    exact Ev.now _
  | succ e ih =>
    intro i he
    have hi : i < ds.length := by omega
    apply Ev.succ
    simp only [spec_l08Windows.l0, if_pos (show (i : Int) < ds.length by omega)]
    have := ih (i + 1) (by omega)
    rw [List.take_succ_eq_append_getElem hi, List.map_append, List.map_append] at this
    exact swin_l1 D B _ _ ds i hi hds (by simp; omega) (by simp; omega) hD (hd _ (List.getElem_mem hi)) hB this ds[i].toNat 0 (by omega)

/-! spec.WindowsOf -/
theorem sWIN_ev (ds : List Int) (B : Int) (hds : ds.length ≤ 1048576) : Ev (fun k => spec_WindowsOf.f k ds B) (WIN ds B) := by
  unfold spec_WindowsOf.f WIN
  refine Ev.bind (bound_ev ds B hds) ?_
  cases h : okB ds B with
  | false =>
    simp only [Bool.false_eq_true, if_false]
    exact Ev.now _
  | true =>
    have h' := h
    simp only [okB, Bool.and_eq_true, decide_eq_true_eq] at h'
    obtain ⟨s1, s2, s3, _⟩ := vd_sum h'.1
    obtain ⟨v1, v2, v3⟩ := VD_facts h'.1
    have r := mul_range (a := ds.sum) (b := ds.sum) (A := 240) (B := 240) (by omega) s3 (by omega) s3
    simp only [if_true]
    unfold spec_l08Windows.f
    refine Ev.bind (a := (ds.map (earlyW ds.sum B), ds.map (lateW ds.sum B))) (Ev.bind (ssum_ev ds (by omega)) ?_) (Ev.now _)
    rw [s1]
    exact swin_l0 ds.sum B ds v2 ⟨s2, s3⟩ v3 (by omega) ds.length 0 (by omega)

/-! laws.toInt64S -/
theorem to_step (l : List Int) (i : Nat) (hi : i < l.length) : (l.take i ++ List.replicate (l.length - i) 0).set i l[i] = l.take (i + 1) ++ List.replicate (l.length - (i + 1)) 0 := by
  rw [show l.length - i = (l.length - (i + 1)) + 1 by omega, List.replicate_succ, List.set_append, if_neg (by simp; omega), List.length_take, Nat.min_eq_left (by omega), Nat.sub_self, List.set_cons_zero, List.take_succ_eq_append_getElem hi, List.append_assoc]
  rfl
theorem to_l0 (l : List Int) (hl : l.length ≤ 35184372088832) : ∀ (d i : Nat), d + i = l.length → Ev (fun k => laws_toInt64S.l0 k l (l.take i ++ List.replicate (l.length - i) 0) i) l := by
  intro d
  induction d with
  | zero =>
    intro i hd
    apply Ev.succ
    simp only [laws_toInt64S.l0, if_neg (show ¬ (i : Int) < (l.length : Int) by omega)]
    rw [List.take_of_length_le (by omega), show l.length - i = 0 by omega]
    simpa using Ev.now l
  | succ d ih =>
    intro i hd
    have hi : i < l.length := by omega
    apply Ev.succ
    simp only [laws_toInt64S.l0, if_pos (show (i : Int) < (l.length : Int) by omega), if_pos (show 0 ≤ (i : Int) by omega), if_pos (show (i : Int) < ((l.take i ++ List.replicate (l.length - i) (0 : Int)).length : Int) by simp; omega), rd_get hi, w64 (show (-9223372036854775808) ≤ (i : Int) + 1 by omega) (by omega), Int.toNat_natCast, to_step l i hi]
    exact ih (i + 1) (by omega)
theorem toInt64S_ev (l : List Int) (hl : l.length ≤ 35184372088832) : Ev (fun k => laws_toInt64S.f k l) l := by
  simp only [laws_toInt64S.f, if_pos (show 0 ≤ (l.length : Int) by omega), Int.toNat_natCast, if_pos hl]
  have := to_l0 l hl l.length 0 (by omega)
  simpa using this

/-! impl.sum -/
theorem isum_l0 (l : List Int) (hl : l.length ≤ 9223372036854775806) : ∀ (d i : Nat) (acc : Int), d + i = l.length → Ev (fun k => impl_sum.l0 k acc l (l.length : Int) i) (wsum acc (l.drop i)) := by
  intro d
  induction d with
  | zero =>
    intro i acc hd
    apply Ev.succ
    simp only [impl_sum.l0, if_neg (show ¬ (i : Int) < (l.length : Int) by omega)]
    rw [List.drop_of_length_le (by omega)]
    exact Ev.now _
  | succ d ih =>
    intro i acc hd
    have hi : i < l.length := by omega
    apply Ev.succ
    simp only [impl_sum.l0, if_pos (show (i : Int) < (l.length : Int) by omega), if_pos (show 0 ≤ (i : Int) by omega), rd_get hi, w64 (show (-9223372036854775808) ≤ (i : Int) + 1 by omega) (by omega)]
    rw [List.drop_eq_getElem_cons hi]
    exact ih (i + 1) _ (by omega)
theorem isum_ev (l : List Int) (hl : l.length ≤ 9223372036854775806) : Ev (fun k => impl_sum.f k l) (wsum 0 l) := by
  have := isum_l0 l hl l.length 0 0 (by omega)
  simpa [impl_sum.f] using this

/-! impl.within -/
theorem within_eq (a b c : Int) : impl_within.f a b c = some (decide (b ≤ a ∧ a ≤ c)) := by
  unfold impl_within.f
  by_cases h : b ≤ a
  · rw [if_pos h]; simp [h]
  · rw [if_neg h]; simp [h]

/-! impl.areWithin -/
theorem aw_l0 (l : List Int) (a b : Int) (hl : l.length ≤ 9223372036854775806) : ∀ (d i : Nat), d + i = l.length → ∃ r : Int, Ev (fun k => slices_IndexFunc_int64_int64_impl_areWithin_1.l0 k l (l.length : Int) i a b) r ∧ (decide (r ≥ 0) = !(l.drop i).all fun n => decide (a ≤ n ∧ n ≤ b)) := by
  intro d
  induction d with
  | zero =>
    intro i hd
    refine ⟨-1, ?_, ?_⟩
    · apply Ev.succ
      simp only [slices_IndexFunc_int64_int64_impl_areWithin_1.l0, if_neg (show ¬ (i : Int) < (l.length : Int) by omega)]
      exact Ev.now _
    · rw [List.drop_of_length_le (by omega)]; rfl
  | succ d ih =>
    intro i hd
    have hi : i < l.length := by omega
    obtain ⟨r, hr, he⟩ := ih (i + 1) (by omega)
    by_cases h : a ≤ l[i] ∧ l[i] ≤ b
    · refine ⟨r, ?_, ?_⟩
      · apply Ev.succ
        simp only [slices_IndexFunc_int64_int64_impl_areWithin_1.l0, if_pos (show (i : Int) < (l.length : Int) by omega), if_pos (show 0 ≤ (i : Int) by omega), rd_get hi, impl_areWithin_1.f, within_eq, decide_eq_true h, Option.bind_some, w64 (show (-9223372036854775808) ≤ (i : Int) + 1 by omega) (by omega)]
        simpa using hr
      · rw [he, List.drop_eq_getElem_cons hi, List.all_cons, decide_eq_true h, Bool.true_and]
    · refine ⟨i, ?_, ?_⟩
      · apply Ev.succ
        simp only [slices_IndexFunc_int64_int64_impl_areWithin_1.l0, if_pos (show (i : Int) < (l.length : Int) by omega), if_pos (show 0 ≤ (i : Int) by omega), rd_get hi, impl_areWithin_1.f, within_eq, decide_eq_false h, Option.bind_some]
        simpa using Ev.now _
      · rw [List.drop_eq_getElem_cons hi, List.all_cons, decide_eq_false h, Bool.false_and]; simp
theorem areWithin_ev (l : List Int) (a b : Int) (hl : l.length ≤ 9223372036854775806) : Ev (fun k => impl_areWithin.f k l a b) (l.all fun n => decide (a ≤ n ∧ n ≤ b)) := by
  obtain ⟨r, hr, he⟩ := aw_l0 l a b hl l.length 0 (by omega)
  unfold impl_areWithin.f
  simp only [slices_ContainsFunc_int64_int64_impl_areWithin_1.f, slices_IndexFunc_int64_int64_impl_areWithin_1.f]
  refine Ev.bind (Ev.bind hr (Ev.now _)) ?_
  refine (Ev.now _).to ?_
  rw [he, List.drop_zero, Bool.not_not]

/-! impl.ValidDemands -/
theorem foldl_lt (l : List Int) : ∀ (s m : Int), 0 < s → s ≤ m → (∀ n ∈ l, 1 ≤ n ∧ n ≤ 40) → l.foldl (fun s d => s * (d + 1)) s ≤ m * 41 ^ l.length := by
  induction l with
  | nil => intro s m _ h _; simpa using h
  | cons d l ih =>
    intro s m hs hm h
    have hd := h d List.mem_cons_self
    have h1 : s * 1 ≤ s * (d + 1) := Int.mul_le_mul_of_nonneg_left (by omega) (by omega)
    have h2 : s * (d + 1) ≤ s * 41 := Int.mul_le_mul_of_nonneg_left (by omega) (by omega)
    have := ih (s * (d + 1)) (m * 41) (by omega) (by omega) (fun n hn => h n (List.mem_cons_of_mem _ hn))
    rw [List.foldl_cons, List.length_cons, Int.pow_succ', ← Int.mul_assoc]
    exact this
theorem ivd_l0 (l : List Int) (hl : l.length ≤ 6) (ha : ∀ n ∈ l, 1 ≤ n ∧ n ≤ 40) : ∀ (d i : Nat) (s : Int), d + i = l.length → 1 ≤ s → s ≤ 41 ^ i → Ev (fun k => impl_ValidDemands.l0 k s l (l.length : Int) i) (le5 ((l.drop i).foldl (fun s d => s * (d + 1)) s)) := by
  intro d
  induction d with
  | zero =>
    intro i s hd h1 h2
    apply Ev.succ
    simp only [impl_ValidDemands.l0, if_neg (show ¬ (i : Int) < (l.length : Int) by omega)]
    rw [List.drop_of_length_le (by omega)]
    exact (Ev.now _).to rfl
  | succ d ih =>
    intro i s hd h1 h2
    have hi : i < l.length := by omega
    have hx := ha l[i] (List.getElem_mem hi)
    have p1 : s * 2 ≤ s * (l[i] + 1) := Int.mul_le_mul_of_nonneg_left (by omega) (by omega)
    have p2 : s * (l[i] + 1) ≤ s * 41 := Int.mul_le_mul_of_nonneg_left (by omega) (by omega)
    have p3 : s * 41 ≤ 41 ^ i * 41 := Int.mul_le_mul_of_nonneg_right h2 (by omega)
    have p4 : (41 : Int) ^ i * 41 ≤ 41 ^ 6 := by
      rw [← Int.pow_succ]
      have hle : i + 1 ≤ 6 := by omega
      have : ∀ j : Fin 7, (41 : Int) ^ j.val ≤ 41 ^ 6 := by decide
      exact this ⟨i + 1, by omega⟩
    have p5 : (41 : Int) ^ 6 = 4750104241 := by decide
    apply Ev.succ
    simp only [impl_ValidDemands.l0, if_pos (show (i : Int) < (l.length : Int) by omega), if_pos (show 0 ≤ (i : Int) by omega), rd_get hi, w64 (show (-9223372036854775808) ≤ (i : Int) + 1 by omega) (by omega), w64 (show (-9223372036854775808) ≤ l[i] + 1 by omega) (by omega), w64 (show (-9223372036854775808) ≤ s * (l[i] + 1) by omega) (by omega)]
    rw [List.drop_eq_getElem_cons hi, List.foldl_cons]
    exact ih (i + 1) _ (by omega) (by omega) (by rw [Int.pow_succ]; omega)
theorem iVD_ev (l : List Int) (hl : l.length ≤ 9223372036854775806) : Ev (fun k => impl_ValidDemands.f k l) (VD l) := by
  simp only [impl_ValidDemands.f, impl_size_int64.f, Option.bind_some, within_eq, VD]
  by_cases h : 1 ≤ (l.length : Int) ∧ (l.length : Int) ≤ 6
  · simp only [decide_eq_true h, if_true, Bool.true_and]
    refine Ev.bind (areWithin_ev l 1 40 hl) ?_
    cases ha : (l.all fun n => decide (1 ≤ n ∧ n ≤ 40)) with
    | true =>
      have ha' : ∀ n ∈ l, 1 ≤ n ∧ n ≤ 40 := by simpa using ha
      apply Ev.succ
      simp only [impl_ValidDemands.j0, Bool.not_true, if_neg (show ¬ (false = true) by decide), Bool.true_and]
      have := ivd_l0 l (by omega) ha' l.length 0 1 (by omega) (by omega) (by decide)
      simpa using this
    | false =>
      apply Ev.succ
      simp only [impl_ValidDemands.j0, Bool.not_false, if_true, Bool.false_and]
      exact Ev.now _
  · simp only [decide_eq_false h, if_neg (show ¬ (false = true) by decide), Bool.false_and]
    apply Ev.succ
    simp only [impl_ValidDemands.j0, if_true]
    exact Ev.now _

/-! impl.floor -/
theorem ifloor_eq {a b : Int} (hb : 0 < b) (h1 : -9223372036854775807 ≤ a) (h2 : a ≤ 9223372036854775807) : impl_floor.f a b = some (a / b) := by
  have r1 := tdiv_range hb h1 h2 (by omega)
  have hf := floorB (a := a) hb
  have e1 : wrap64 (a.tdiv b) = a.tdiv b := w64 (by omega) (by omega)
  unfold impl_floor.f
  rw [if_neg (by omega), e1]
  by_cases h : a.tmod b < 0
  · rw [if_pos h] at hf
    rw [if_pos h, w64 (by omega) (by omega), hf]
  · rw [if_neg h] at hf
    rw [if_neg h, hf]

/-! impl.ceiling -/
theorem iceil_eq {a b : Int} (hb : 0 < b) (h1 : -1000000000000 ≤ a) (h2 : a ≤ 1000000000000) : impl_ceiling.f a b = some (ceilOf a b) := by
  have hr := ceil_range (m := 1000000000000) hb h1 h2 (by omega)
  unfold impl_ceiling.f ceilOf
  rw [w64 (show (-9223372036854775808) ≤ -a by omega) (by omega), ifloor_eq hb (by omega) (by omega), Option.bind_some, w64 (by omega) (by omega)]

/-! impl.WindowsOf -/
theorem mx_maxW (a b : Int) : mx a b = max a b := by
  unfold mx; omega
theorem mn_minW (a b : Int) : mn a b = min a b := by
  unfold mn; omega
theorem iwin_l1 (D B d : Int) (x8 x9 : List (List Int)) (ds : List Int) (i : Nat) (hi : i < ds.length) (hds : ds.length ≤ 6) (h8 : x8.length = i) (h9 : x9.length = i) (hD : 1 ≤ D ∧ D ≤ 240) (hd : 1 ≤ d ∧ d ≤ 40) (hB : 0 ≤ B ∧ B ≤ 57600) {R : List (List Int) × List (List Int) × Bool}
    (hs : Ev (fun k => impl_WindowsOf.l0 k B D (x8 ++ [earlyW D B d]) (x9 ++ [lateW D B d]) ds (ds.length : Int) ((i : Int) + 1)) R) : ∀ (e j : Nat), e + j = d.toNat → Ev (fun k => impl_WindowsOf.l1 k B D x8 x9 d ((List.range j).map (early1 D B d)) ((List.range j).map (late1 D B d)) ((j : Int) + 1) ds (ds.length : Int) i) R := by
  intro e
  induction e with
  | zero =>
    intro j he
    apply Ev.succ
    simp only [impl_WindowsOf.l1, if_neg (show ¬ (j : Int) + 1 ≤ d by omega), if_pos (show x8.length < 5864062014805 by omega), if_pos (show x9.length < 5864062014805 by omega), inc hi (by omega)]
    rw [show j = d.toNat by omega]
    exact hs
  | succ e ih =>
    intro j he
    have r1 := mul_range (a := D) (b := (j : Int) + 1) (A := 240) (B := 40) (by omega) (by omega) (by omega) (by omega)
    have r2 := mul_range (a := D) (b := (j : Int)) (A := 240) (B := 40) (by omega) (by omega) (by omega) (by omega)
    have r3 := ediv_range (a := B + D * (j : Int)) (b := d) (m := 100000) (by omega) (by omega) (by omega) (by omega)
    apply Ev.succ
    simp only [impl_WindowsOf.l1, if_pos (show (j : Int) + 1 ≤ d by omega), w64 (show (-9223372036854775808) ≤ D * ((j : Int) + 1) by omega) (by omega), w64 (show (-9223372036854775808) ≤ D * ((j : Int) + 1) - B by omega) (by omega), iceil_eq (show 0 < d by omega) (show -1000000000000 ≤ D * ((j : Int) + 1) - B by omega) (by omega), Option.bind_some, List.length_map, List.length_range, if_pos (show j < 17592186044416 by omega), show (j : Int) + 1 - 1 = j by omega, w64 (show (-9223372036854775808) ≤ (j : Int) by omega) (by omega), w64 (show (-9223372036854775808) ≤ D * (j : Int) by omega) (by omega), w64 (show (-9223372036854775808) ≤ B + D * (j : Int) by omega) (by omega), ifloor_eq (show 0 < d by omega) (show -9223372036854775807 ≤ B + D * (j : Int) by omega) (by omega), w64 (show (-9223372036854775808) ≤ (B + D * (j : Int)) / d + 1 by omega) (by omega), mx_maxW, mn_minW, w64 (show (-9223372036854775808) ≤ (j : Int) + 1 + 1 by omega) (by omega)]
    have := ih (j + 1) (by omega)
    rw [List.range_succ, List.map_append, List.map_append] at this
    exact this
theorem iwin_l0 (D B : Int) (ds : List Int) (hds : ds.length ≤ 6) (hD : 1 ≤ D ∧ D ≤ 240) (hd : ∀ d ∈ ds, 1 ≤ d ∧ d ≤ 40) (hB : 0 ≤ B ∧ B ≤ 57600) : ∀ (e i : Nat), e + i = ds.length → Ev (fun k => impl_WindowsOf.l0 k B D ((ds.take i).map (earlyW D B)) ((ds.take i).map (lateW D B)) ds (ds.length : Int) i) (ds.map (earlyW D B), ds.map (lateW D B), true) := by
  intro e
  induction e with
  | zero =>
    intro i he
    apply Ev.succ
    simp only [impl_WindowsOf.l0, if_neg (show ¬ (i : Int) < ds.length by omega)]
    rw [List.take_of_length_le (by omega)]
    exact Ev.now _
  | succ e ih =>
    intro i he
    have hi : i < ds.length := by omega
    apply Ev.succ
    simp only [impl_WindowsOf.l0, if_pos (show (i : Int) < ds.length by omega), if_pos (show 0 ≤ (i : Int) by omega), rd_get hi]
    have := ih (i + 1) (by omega)
    rw [List.take_succ_eq_append_getElem hi, List.map_append, List.map_append] at this
    exact iwin_l1 D B ds[i] _ _ ds i hi hds (by simp; omega) (by simp; omega) hD (hd _ (List.getElem_mem hi)) hB this ds[i].toNat 0 (by omega)
theorem iWIN_ev (ds : List Int) (B : Int) (hds : ds.length ≤ 1048576) : Ev (fun k => impl_WindowsOf.f k ds B) (WIN ds B) := by
  unfold impl_WindowsOf.f WIN okB
  refine Ev.bind (isum_ev ds (by omega)) (Ev.bind (iVD_ev ds (by omega)) ?_)
  cases h : VD ds with
  | false =>
    simp only [Bool.false_eq_true, if_false, Bool.false_and]
    apply Ev.succ
    simp only [impl_WindowsOf.j0, if_true]
    exact Ev.now _
  | true =>
    obtain ⟨s1, s2, s3, _⟩ := vd_sum h
    obtain ⟨v1, v2, v3⟩ := VD_facts h
    have r := mul_range (a := ds.sum) (b := ds.sum) (A := 240) (B := 240) (by omega) s3 (by omega) s3
    simp only [if_true, Bool.true_and, s1, w64 (show (-9223372036854775808) ≤ ds.sum * ds.sum by omega) (by omega), w64 (show (-9223372036854775808) ≤ ds.sum * ds.sum - 1 by omega) (by omega), within_eq, Option.bind_some]
    apply Ev.succ
    by_cases hb : 0 ≤ B ∧ B ≤ ds.sum * ds.sum - 1
    · simp only [impl_WindowsOf.j0, decide_eq_true hb, Bool.not_true, Bool.false_eq_true, if_false, if_true]
      exact iwin_l0 ds.sum B ds v2 ⟨s2, s3⟩ v3 (by omega) ds.length 0 (by omega)
    · simp only [impl_WindowsOf.j0, decide_eq_false hb, Bool.not_false, if_true, Bool.false_eq_true, if_false]
      exact Ev.now _

/-! laws.eqInt64S -/
theorem eq_l0 (a b : List Int) (hl : a.length = b.length) (hm : a.length ≤ 9223372036854775806) : ∀ (d i : Nat), d + i = a.length → Ev (fun k => laws_eqInt64S.l0 k a b i) (decide (a.drop i = b.drop i)) := by
  intro d
  induction d with
  | zero =>
    intro i hd
    apply Ev.succ
    simp only [laws_eqInt64S.l0, if_neg (show ¬ (i : Int) < (a.length : Int) by omega)]
    rw [List.drop_of_length_le (by omega), List.drop_of_length_le (by omega)]
    exact Ev.now _
  | succ d ih =>
    intro i hd
    have hi : i < a.length := by omega
    have hi' : i < b.length := by omega
    apply Ev.succ
    simp only [laws_eqInt64S.l0, if_pos (show (i : Int) < (a.length : Int) by omega), if_pos (show 0 ≤ (i : Int) by omega), if_pos (show (i : Int) < (b.length : Int) by omega), rd_get hi, rd_get hi', w64 (show (-9223372036854775808) ≤ (i : Int) + 1 by omega) (by omega)]
    rw [List.drop_eq_getElem_cons hi, List.drop_eq_getElem_cons hi']
    by_cases h : a[i] = b[i]
    · simp only [if_pos h]
      exact (ih (i + 1) (by omega)).to (by simp only [List.cons.injEq, h, true_and])
    · simp only [if_neg h]
      exact (Ev.now _).to (by simp only [List.cons.injEq, h, false_and, decide_false])
theorem eqInt64S_ev (a b : List Int) (hm : a.length ≤ 9223372036854775806) : Ev (fun k => laws_eqInt64S.f k a b) (decide (a = b)) := by
  unfold laws_eqInt64S.f
  by_cases h : a.length = b.length
  · simp only [if_pos (show (a.length : Int) = (b.length : Int) by omega)]
    simpa using eq_l0 a b h hm a.length 0 (by omega)
  · simp only [if_neg (show ¬ (a.length : Int) = (b.length : Int) by omega)]
    exact (Ev.now _).to (by symm; simp; intro e; exact h (by rw [e]))

/-! laws.eqInt64SS -/
theorem rdl_get3 {xs : List (List Int)} {i : Nat} (h : i < xs.length) : rd_L1 xs (i : Int) = xs[i] := by
  unfold rd_L1; exact getD_get h
theorem eqss_l0 (a b : List (List Int)) (hl : a.length = b.length) (hm : a.length ≤ 9223372036854775806) (hr : ∀ r ∈ a, r.length ≤ 9223372036854775806) : ∀ (d i : Nat), d + i = a.length → Ev (fun k => laws_eqInt64SS.l0 k a b i) (decide (a.drop i = b.drop i)) := by
  intro d
  induction d with
  | zero =>
    intro i hd
    apply Ev.succ
    simp only [laws_eqInt64SS.l0, if_neg (show ¬ (i : Int) < (a.length : Int) by omega)]
    rw [List.drop_of_length_le (by omega), List.drop_of_length_le (by omega)]
    exact Ev.now _
  | succ d ih =>
    intro i hd
    have hi : i < a.length := by omega
    have hi' : i < b.length := by omega
    apply Ev.succ
    simp only [laws_eqInt64SS.l0, if_pos (show (i : Int) < (a.length : Int) by omega), if_pos (show 0 ≤ (i : Int) by omega), if_pos (show (i : Int) < (b.length : Int) by omega), rdl_get3 hi, rdl_get3 hi', w64 (show (-9223372036854775808) ≤ (i : Int) + 1 by omega) (by omega)]
    rw [List.drop_eq_getElem_cons hi, List.drop_eq_getElem_cons hi']
    refine Ev.bind (eqInt64S_ev a[i] b[i] (hr _ (List.getElem_mem hi))) ?_
    by_cases h : a[i] = b[i]
    · simp only [decide_eq_true h, if_true]
      exact (ih (i + 1) (by omega)).to (by simp only [List.cons.injEq, h, true_and])
    · simp only [decide_eq_false h, Bool.false_eq_true, if_false]
      exact (Ev.now _).to (by simp only [List.cons.injEq, h, false_and, decide_false])
theorem eqInt64SS_ev (a b : List (List Int)) (hm : a.length ≤ 9223372036854775806) (hr : ∀ r ∈ a, r.length ≤ 9223372036854775806) : Ev (fun k => laws_eqInt64SS.f k a b) (decide (a = b)) := by
  unfold laws_eqInt64SS.f
  by_cases h : a.length = b.length
  · simp only [if_pos (show (a.length : Int) = (b.length : Int) by omega)]
    simpa using eqss_l0 a b h hm hr a.length 0 (by omega)
  · simp only [if_neg (show ¬ (a.length : Int) = (b.length : Int) by omega)]
    exact (Ev.now _).to (by symm; simp; intro e; exact h (by rw [e]))

/-! laws.markInt64S -/
theorem mark_l0 (l : List Int) (m : Int) (hl : l.length ≤ 140737488355328) (h0 : 0 ≤ m) (h1 : m ≤ 4611686018427387904) : ∀ (d i : Nat), d + i = l.length → Ev (fun k => laws_markInt64S.l0 k (MARKS m i ++ l.drop i) (m + (i : Int)) i) (m + (l.length : Int), MARKS m l.length) := by
  intro d
  induction d with
  | zero =>
    intro i hd
    apply Ev.succ
    simp only [laws_markInt64S.l0, if_neg (show ¬ (i : Int) < ((MARKS m i ++ l.drop i).length : Int) by simp [MARKS_length]; omega)]
    rw [show i = l.length by omega, List.drop_length, List.append_nil]
    exact Ev.now _
  | succ d ih =>
    intro i hd
    have hi : i < l.length := by omega
    apply Ev.succ
    simp only [laws_markInt64S.l0, if_pos (show (i : Int) < ((MARKS m i ++ l.drop i).length : Int) by simp [MARKS_length]; omega), if_pos (show 0 ≤ (i : Int) by omega), Int.toNat_natCast, marks_step l m i hi, w64 (show (-9223372036854775808) ≤ (i : Int) + 1 by omega) (by omega), w64 (show (-9223372036854775808) ≤ m + (i : Int) + 1 by omega) (by omega)]
    have := ih (i + 1) (by omega)
    rw [Int.natCast_succ, ← Int.add_assoc] at this
    exact this
theorem markInt64S_ev (l : List Int) (m : Int) (hl : l.length ≤ 140737488355328) (h0 : 0 ≤ m) (h1 : m ≤ 4611686018427387904) : Ev (fun k => laws_markInt64S.f k l m) (m + (l.length : Int), MARKS m l.length) := by
  have := mark_l0 l m hl h0 h1 l.length 0 (by omega)
  simpa [laws_markInt64S.f, MARKS] using this

/-! laws.markInt64SS -/
theorem rdl_getM {xs : List (List Int)} {i : Nat} : rd_L1 xs (i : Int) = xs.getD i [] := by
  unfold rd_L1; simp
theorem mssk_l0 (l : List (List Int)) (m : Int) (hl : l.length ≤ 1048576) (hr : ∀ r ∈ l, r.length ≤ 1048576) (h0 : 0 ≤ m) (h1 : m ≤ 100000000000000) : ∀ (d i : Nat), d + i = l.length → Ev (fun k => laws_markInt64SS.l0 k (MSS m (l.take i) ++ l.drop i) (mtot_ m (l.take i)) i) (mtot_ m l, MSS m l) := by
  have hb : ((1048576 : Nat) : Int) * (l.length : Int) ≤ 1099511627776 := by
    have := Int.mul_le_mul_of_nonneg_left (show (l.length : Int) ≤ 1048576 by omega) (show (0 : Int) ≤ ((1048576 : Nat) : Int) by omega)
    omega
  intro d
  induction d with
  | zero =>
    intro i hd
    apply Ev.succ
    simp only [laws_markInt64SS.l0, if_neg (show ¬ (i : Int) < ((MSS m (l.take i) ++ l.drop i).length : Int) by rw [List.length_append, MSS_length]; simp; omega)]
    rw [List.take_of_length_le (by omega), List.drop_of_length_le (by omega), List.append_nil]
    exact Ev.now _
  | succ d ih =>
    intro i hd
    have hi : i < l.length := by omega
    have hm := hr (l.getD i []) (getD_mem hi)
    have hb2 := mtot_mono l m i 1048576 hr (by omega)
    apply Ev.succ
    simp only [laws_markInt64SS.l0, if_pos (show (i : Int) < ((MSS m (l.take i) ++ l.drop i).length : Int) by rw [List.length_append, MSS_length]; simp; omega), if_pos (show 0 ≤ (i : Int) by omega), rdl_getM, MSS_now l m i hi, inc hi (by omega), Int.toNat_natCast]
    refine Ev.bind (markInt64S_ev (l.getD i []) (mtot_ m (l.take i)) (by omega) (by omega) (by omega)) ?_
    simp only [MSS_step l m i hi]
    rw [← mtot_take l m i hi]
    exact ih (i + 1) (by omega)
theorem markSSk_ev (l : List (List Int)) (m : Int) (hl : l.length ≤ 1048576) (hr : ∀ r ∈ l, r.length ≤ 1048576) (h0 : 0 ≤ m) (h1 : m ≤ 100000000000000) : Ev (fun k => laws_markInt64SS.f k l m) (mtot_ m l, MSS m l) := by
  have := mssk_l0 l m hl hr h0 h1 l.length 0 (by omega)
  simpa [laws_markInt64SS.f, MSS, mtot_] using this

/-! laws.heldInt64S -/
theorem held_l0 (m : Int) (n : Nat) (hl : n ≤ 140737488355328) (h0 : 0 ≤ m) (h1 : m ≤ 4611686018427387904) : ∀ (d i : Nat), d + i = n → Ev (fun k => laws_heldInt64S.l0 k (MARKS m n) (m + (i : Int)) i) (m + (n : Int)) := by
  intro d
  induction d with
  | zero =>
    intro i hd
    apply Ev.succ
    simp only [laws_heldInt64S.l0, MARKS_length, if_neg (show ¬ (i : Int) < (n : Int) by omega)]
    rw [show i = n by omega]
    exact Ev.now _
  | succ d ih =>
    intro i hd
    have hi : i < (MARKS m n).length := by rw [MARKS_length]; omega
    apply Ev.succ
    simp only [laws_heldInt64S.l0, MARKS_length, if_pos (show (i : Int) < (n : Int) by omega), if_pos (show 0 ≤ (i : Int) by omega), rd_get hi, MARKS_get m n i hi, if_true, w64 (show (-9223372036854775808) ≤ (i : Int) + 1 by omega) (by omega), w64 (show (-9223372036854775808) ≤ m + (i : Int) + 1 by omega) (by omega)]
    have := ih (i + 1) (by omega)
    rw [Int.natCast_succ, ← Int.add_assoc] at this
    exact this
theorem heldInt64S_ev (m : Int) (n : Nat) (hl : n ≤ 140737488355328) (h0 : 0 ≤ m) (h1 : m ≤ 4611686018427387904) : Ev (fun k => laws_heldInt64S.f k (MARKS m n) m) (m + (n : Int)) := by
  have := held_l0 m n hl h0 h1 n 0 (by omega)
  simpa [laws_heldInt64S.f] using this

/-! laws.heldInt64SS -/
theorem rdl_getH {xs : List (List Int)} {i : Nat} : rd_L1 xs (i : Int) = xs.getD i [] := by
  unfold rd_L1; simp
theorem hss_l0 (l : List (List Int)) (m : Int) (hl : l.length ≤ 1048576) (hr : ∀ r ∈ l, r.length ≤ 1048576) (h0 : 0 ≤ m) (h1 : m ≤ 100000000000000) : ∀ (d i : Nat), d + i = l.length → Ev (fun k => laws_heldInt64SS.l0 k (MSS m l) (mtot_ m (l.take i)) i) (mtot_ m l) := by
  have hb : ((1048576 : Nat) : Int) * (l.length : Int) ≤ 1099511627776 := by
    have := Int.mul_le_mul_of_nonneg_left (show (l.length : Int) ≤ 1048576 by omega) (show (0 : Int) ≤ ((1048576 : Nat) : Int) by omega)
    omega
  intro d
  induction d with
  | zero =>
    intro i hd
    apply Ev.succ
    simp only [laws_heldInt64SS.l0, MSS_length, if_neg (show ¬ (i : Int) < (l.length : Int) by omega)]
    rw [List.take_of_length_le (by omega)]
    exact Ev.now _
  | succ d ih =>
    intro i hd
    have hi : i < l.length := by omega
    have hm := hr (l.getD i []) (getD_mem hi)
    have hb2 := mtot_mono l m i 1048576 hr (by omega)
    apply Ev.succ
    simp only [laws_heldInt64SS.l0, MSS_length, if_pos (show (i : Int) < (l.length : Int) by omega), if_pos (show 0 ≤ (i : Int) by omega), rdl_getH, MSS_get l m i hi, inc hi (by omega)]
    refine Ev.bind (heldInt64S_ev (mtot_ m (l.take i)) (l.getD i []).length (by omega) (by omega) (by omega)) ?_
    simp only [if_neg (show ¬ (mtot_ m (l.take i) + ((l.getD i []).length : Int)) < 0 by omega)]
    rw [← mtot_take l m i hi]
    exact ih (i + 1) (by omega)
theorem heldSS_ev (l : List (List Int)) (m : Int) (hl : l.length ≤ 1048576) (hr : ∀ r ∈ l, r.length ≤ 1048576) (h0 : 0 ≤ m) (h1 : m ≤ 100000000000000) : Ev (fun k => laws_heldInt64SS.f k (MSS m l) m) (mtot_ m l) := by
  have := hss_l0 l m hl hr h0 h1 l.length 0 (by omega)
  simpa [laws_heldInt64SS.f, mtot_] using this

/-! the law -/
theorem WIN_len (ds : List Int) (B : Int) : ((WIN ds B).1.length ≤ 6 ∧ ∀ r ∈ (WIN ds B).1, r.length ≤ 40) ∧ ((WIN ds B).2.1.length ≤ 6 ∧ ∀ r ∈ (WIN ds B).2.1, r.length ≤ 40) := by
  unfold WIN
  cases h : okB ds B with
  | false => simp
  | true =>
    simp only [okB, Bool.and_eq_true, decide_eq_true_eq] at h
    obtain ⟨v1, v2, v3⟩ := VD_facts h.1
    simp only [if_true, List.length_map, List.mem_map]
    refine ⟨⟨by omega, ?_⟩, by omega, ?_⟩
    · rintro r ⟨d, hd, rfl⟩
      have := v3 d hd
      simp [earlyW]; omega
    · rintro r ⟨d, hd, rfl⟩
      have := v3 d hd
      simp [lateW]; omega
theorem FnExactWindowsOf : laws_FnExactWindowsOf.Pure := by
  intro ds B _ _ _
  apply Ev.rounds
  unfold laws_FnExactWindowsOf.f
  by_cases hm : (ds.length : Int) > 1048576
  · simp only [if_pos hm]
    exact Ev.now _
  simp only [if_neg hm]
  have ht := toInt64S_ev ds (by omega)
  have hd := eqInt64S_ev ds ds (by omega)
  obtain ⟨⟨n1, n2⟩, n3, n4⟩ := WIN_len ds B
  have hs := sWIN_ev ds B (by omega)
  have hi := iWIN_ev ds B (by omega)
  generalize WIN ds B = R at *
  obtain ⟨e, l, ok⟩ := R
  simp only at n1 n2 n3 n4
  have b1 := mtot_bnd e 1 40 n2
  have b2 := mtot_bnd l (mtot_ 1 e) 40 n4
  have he := eqInt64SS_ev e e (by omega) (fun r hr => by have := n2 r hr; omega)
  have hl := eqInt64SS_ev l l (by omega) (fun r hr => by have := n4 r hr; omega)
  have me := markSSk_ev e 1 (by omega) (fun r hr => by have := n2 r hr; omega) (by omega) (by omega)
  have ml := markSSk_ev l (mtot_ 1 e) (by omega) (fun r hr => by have := n4 r hr; omega) (by omega) (by omega)
  have qe := heldSS_ev e 1 (by omega) (fun r hr => by have := n2 r hr; omega) (by omega) (by omega)
  have ql := heldSS_ev l (mtot_ 1 e) (by omega) (fun r hr => by have := n4 r hr; omega) (by omega) (by omega)
  refine Ev.bind ht (Ev.bind hs (Ev.bind ht (Ev.bind hi (Ev.bind he ?_))))
  simp only [decide_true, if_true]
  refine Ev.bind hl ?_
  simp only [decide_true, if_true]
  refine Ev.bind ht (Ev.bind hd ?_)
  simp only [decide_true, if_true]
  refine Ev.bind (markInt64S_ev ds 1 (by omega) (by omega) (by omega)) ?_
  simp only [if_neg (show ¬ (1 + (ds.length : Int)) < 0 by omega)]
  refine Ev.bind he ?_
  simp only [decide_true, if_true]
  refine Ev.bind hl ?_
  simp only [decide_true, if_true]
  refine Ev.bind me (Ev.bind ml (Ev.bind qe ?_))
  simp only [if_neg (show ¬ mtot_ 1 e < 0 by omega)]
  refine Ev.bind ql ?_
  simp only [if_neg (show ¬ mtot_ (mtot_ 1 e) l < 0 by omega), if_true]
  refine Ev.bind ht (Ev.bind hi (Ev.bind he ?_))
  simp only [decide_true, if_true]
  refine Ev.bind hl ?_
  simp only [decide_true, if_true]
  refine Ev.bind qe ?_
  simp only [if_neg (show ¬ mtot_ 1 e < 0 by omega)]
  refine Ev.bind ql ?_
  simp only [if_neg (show ¬ mtot_ (mtot_ 1 e) l < 0 by omega), if_true]
  exact Ev.now _


end Go.Proofs.Ytkcdmmegdhiabaa.Pure
