/- Proved: the pure half of the law FnSystematic: the printed functions answer true, for every input. No condition. -/
import Derived.Test.YtlhpejabdmejbaaPFnSystematicx11
import Derived.Test.YtlhpejabdmejbaaBase
import Derived.Test.YtlhpejabdmejbaaLists
import Derived.Test.YtlhpejabdmejbaaPair
import Derived.Test.YtlhpejabdmejbaaPsum
import Derived.Test.YtlhpejabdmejbaaMix
import Derived.Test.YtlhpejabdmejbaaCeil
import Derived.Test.YtlhpejabdmejbaaRnd
import Derived.Test.YtlhpejabdmejbaaTables
import Derived.Test.YtlhpejabdmejbaaCut
import Derived.Test.YtlhpejabdmejbaaSorts
import Derived.Test.YtlhpejabdmejbaaSys
import Derived.Test.YtlhpejabdmejbaaSource
import Derived.Test.YtlhpejabdmejbaaKeyed
import Derived.Test.YtlhpejabdmejbaaGcd
namespace Go.Proofs.Ytlhpejabdmejbaa.Pure
open Go.RowKit Go.Proofs.Ytlhpejabdmejbaa.PFnSystematic Go.Proofs.YtlhpejabdmejbaaW.PrintWords Go.Proofs.YtlhpejabdmejbaaW.PrintLast Go.Proofs.YtlhpejabdmejbaaW.PrintMore Go.Proofs.Ytlhpejabdmejbaa.Base
set_option linter.unusedVariables false
set_option linter.unusedSimpArgs false

/-! impl.within -/
theorem within_eq (a b c : Int) : impl_within.f a b c = some (decide (b ≤ a ∧ a ≤ c)) := by
  unfold impl_within.f
  by_cases h : b ≤ a
  · rw [if_pos h]; simp [h]
  · rw [if_neg h]; simp [h]

/-! impl.sum -/
theorem isum_l0 (l : List Int) (hl : l.length ≤ 9223372036854775806) : ∀ (d i : Nat) (acc : Int), d + i = l.length → Ev (fun k => impl_sum.l0 k acc l (l.length : Int) i) (wsum acc (l.drop i)) := by
  intro d
  induction d with
  | zero =>
    intro i acc hd
    apply Ev.succ
    simp only [impl_sum.l0, if_neg (show ¬ (i : Int) < (l.length : Int) by omega)]
    rw [List.drop_of_length_le (by omega)]
    exact Ev.now _
  | succ d ih =>
    intro i acc hd
    have hi : i < l.length := by omega
    apply Ev.succ
    simp only [impl_sum.l0, if_pos (show (i : Int) < (l.length : Int) by omega), if_pos (show 0 ≤ (i : Int) by omega), rd_get hi, w64 (show (-9223372036854775808) ≤ (i : Int) + 1 by omega) (by omega)]
    rw [List.drop_eq_getElem_cons hi]
    exact ih (i + 1) _ (by omega)
theorem isum_ev (l : List Int) (hl : l.length ≤ 9223372036854775806) : Ev (fun k => impl_sum.f k l) (wsum 0 l) := by
  have := isum_l0 l hl l.length 0 0 (by omega)
  simpa [impl_sum.f] using this

/-! impl.areWithin -/
theorem aw_l0 (l : List Int) (a b : Int) (hl : l.length ≤ 9223372036854775806) : ∀ (d i : Nat), d + i = l.length → ∃ r : Int, Ev (fun k => slices_IndexFunc_int64_int64_impl_areWithin_1.l0 k l (l.length : Int) i a b) r ∧ (decide (r ≥ 0) = !(l.drop i).all fun n => decide (a ≤ n ∧ n ≤ b)) := by
  intro d
  induction d with
  | zero =>
    intro i hd
    refine ⟨-1, ?_, ?_⟩
    · apply Ev.succ
      simp only [slices_IndexFunc_int64_int64_impl_areWithin_1.l0, if_neg (show ¬ (i : Int) < (l.length : Int) by omega)]
      exact Ev.now _
    · rw [List.drop_of_length_le (by omega)]; rfl
  | succ d ih =>
    intro i hd
    have hi : i < l.length := by omega
    obtain ⟨r, hr, he⟩ := ih (i + 1) (by omega)
    by_cases h : a ≤ l[i] ∧ l[i] ≤ b
    · refine ⟨r, ?_, ?_⟩
      · apply Ev.succ
        simp only [slices_IndexFunc_int64_int64_impl_areWithin_1.l0, if_pos (show (i : Int) < (l.length : Int) by omega), if_pos (show 0 ≤ (i : Int) by omega), rd_get hi, impl_areWithin_1.f, within_eq, decide_eq_true h, Option.bind_some, w64 (show (-9223372036854775808) ≤ (i : Int) + 1 by omega) (by omega)]
        simpa using hr
      · rw [he, List.drop_eq_getElem_cons hi, List.all_cons, decide_eq_true h, Bool.true_and]
    · refine ⟨i, ?_, ?_⟩
      · apply Ev.succ
        simp only [slices_IndexFunc_int64_int64_impl_areWithin_1.l0, if_pos (show (i : Int) < (l.length : Int) by omega), if_pos (show 0 ≤ (i : Int) by omega), rd_get hi, impl_areWithin_1.f, within_eq, decide_eq_false h, Option.bind_some]
        simpa using Ev.now _
      · rw [List.drop_eq_getElem_cons hi, List.all_cons, decide_eq_false h, Bool.false_and]; simp
theorem areWithin_ev (l : List Int) (a b : Int) (hl : l.length ≤ 9223372036854775806) : Ev (fun k => impl_areWithin.f k l a b) (l.all fun n => decide (a ≤ n ∧ n ≤ b)) := by
  obtain ⟨r, hr, he⟩ := aw_l0 l a b hl l.length 0 (by omega)
  unfold impl_areWithin.f
  simp only [slices_ContainsFunc_int64_int64_impl_areWithin_1.f, slices_IndexFunc_int64_int64_impl_areWithin_1.f]
  refine Ev.bind (Ev.bind hr (Ev.now _)) ?_
  refine (Ev.now _).to ?_
  rw [he, List.drop_zero, Bool.not_not]

/-! slices.Equal   int64,int64  -/
theorem sleq_l0 (a b : List Int) (hl : a.length = b.length) (hm : a.length ≤ 9223372036854775806) : ∀ (d i : Nat), d + i = a.length → Ev (fun k => slices_Equal_int64_int64.l0 k a b (a.length : Int) i) (decide (a.drop i = b.drop i)) := by
  intro d
  induction d with
  | zero =>
    intro i hd
    apply Ev.succ
    simp only [slices_Equal_int64_int64.l0, if_neg (show ¬ (i : Int) < (a.length : Int) by omega)]
    rw [List.drop_of_length_le (by omega), List.drop_of_length_le (by omega)]
    exact Ev.now _
  | succ d ih =>
    intro i hd
    have hi : i < a.length := by omega
    have hi' : i < b.length := by omega
    apply Ev.succ
    simp only [slices_Equal_int64_int64.l0, if_pos (show (i : Int) < (a.length : Int) by omega), if_pos (show 0 ≤ (i : Int) by omega), if_pos (show (i : Int) < (b.length : Int) by omega), rd_get hi, rd_get hi', w64 (show (-9223372036854775808) ≤ (i : Int) + 1 by omega) (by omega)]
    rw [List.drop_eq_getElem_cons hi, List.drop_eq_getElem_cons hi']
    by_cases h : a[i] = b[i]
    · simp only [if_pos h]
      exact (ih (i + 1) (by omega)).to (by simp only [List.cons.injEq, h, true_and])
    · simp only [if_neg h]
      exact (Ev.now _).to (by simp only [List.cons.injEq, h, false_and, decide_false])
theorem slEqual_ev (a b : List Int) (hm : a.length ≤ 9223372036854775806) : Ev (fun k => slices_Equal_int64_int64.f k a b) (decide (a = b)) := by
  unfold slices_Equal_int64_int64.f
  by_cases h : a.length = b.length
  · simp only [if_pos (show (a.length : Int) = (b.length : Int) by omega)]
    simpa using sleq_l0 a b h hm a.length 0 (by omega)
  · simp only [if_neg (show ¬ (a.length : Int) = (b.length : Int) by omega)]
    exact (Ev.now _).to (by symm; simp; intro e; exact h (by rw [e]))

/-! impl.ValidMixture -/
theorem rdl_get7 {xs : List (List Int)} {i : Nat} (h : i < xs.length) : rd_L1 xs (i : Int) = xs.getD i [] := by
  unfold rd_L1; simp
theorem rdl_head7 (xs : List (List Int)) : rd_L1 xs 0 = xs.headD [] := by
  unfold rd_L1; cases xs <;> rfl
theorem rdl_get8 {xs : List (List Int)} {i : Nat} (h : i < xs.length) : rd_L1 xs (i : Int) = xs[i] := by
  unfold rd_L1; exact getD_get h
def imRow (ls : List (List Int)) (i : Nat) : Bool := !((ls.take i).any fun r => decide (r = ls.getD i [])) && (decide ((ls.getD i []).length = (ls.headD []).length) && (decide ((ls.getD i []).length ≤ 40) && (ls.getD i []).all fun x => decide (-1000000 ≤ x ∧ x ≤ 1000000)))
theorem vm1_ev (r : List Int) (x : List Int) (hr : r.length ≤ 1048576) : Ev (fun k => impl_ValidMixture_1.f k r x) (decide (r = x)) := by
  unfold impl_ValidMixture_1.f
  exact Ev.bind (slEqual_ev r x (by omega)) (Ev.now _)
theorem vmC_ev (l : List (List Int)) (x : List Int) (hl : l.length ≤ 1048576) (hr : ∀ r ∈ l, r.length ≤ 1048576) : Ev (fun k => slices_ContainsFunc_int64_int64_impl_ValidMixture_1.f k l x) (l.any fun r => decide (r = x)) := by
  obtain ⟨r, hr1, hr2⟩ := find_loop l (fun r => decide (r = x)) (fun k j => slices_IndexFunc_int64_int64_impl_ValidMixture_1.l0 k l (l.length : Int) j x)
    (by
      apply Ev.succ
      simp only [slices_IndexFunc_int64_int64_impl_ValidMixture_1.l0, if_neg (show ¬ (l.length : Int) < l.length by omega)]
      exact Ev.now _)
    (fun i hi hp => by
      apply Ev.succ
      simp only [slices_IndexFunc_int64_int64_impl_ValidMixture_1.l0, if_pos (show (i : Int) < (l.length : Int) by omega), if_pos (show 0 ≤ (i : Int) by omega), rdl_get8 hi]
      refine Ev.bind (vm1_ev l[i] x (hr _ (List.getElem_mem hi))) ?_
      simp only [hp, if_true]
      exact Ev.now _)
    (fun i hi hp r hr' => by
      apply Ev.succ
      simp only [slices_IndexFunc_int64_int64_impl_ValidMixture_1.l0, if_pos (show (i : Int) < (l.length : Int) by omega), if_pos (show 0 ≤ (i : Int) by omega), rdl_get8 hi]
      refine Ev.bind (vm1_ev l[i] x (hr _ (List.getElem_mem hi))) ?_
      simp only [hp, Bool.false_eq_true, if_false, inc hi (by omega)]
      exact hr')
  simp only [slices_ContainsFunc_int64_int64_impl_ValidMixture_1.f, slices_IndexFunc_int64_int64_impl_ValidMixture_1.f]
  refine Ev.bind hr1 ?_
  refine (Ev.now _).to ?_
  rw [hr2]
theorem im_l0 (ws : List Int) (ls : List (List Int)) (hl : ls.length ≤ 64) (hr : ∀ r ∈ ls, r.length ≤ 1048576) : Ev (fun k => impl_ValidMixture.l0 k ls (ls.length : Int) 0 ws ls) ((List.range ls.length).all (imRow ls)) := by
  have := all_step ls.length (imRow ls) (fun k i => impl_ValidMixture.l0 k ls (ls.length : Int) i ws ls) (r := true) ?_ ?_
  · rw [Bool.and_true] at this
    exact this
  · apply Ev.succ
    simp only [impl_ValidMixture.l0, if_neg (show ¬ (ls.length : Int) < ls.length by omega)]
    exact Ev.now _
  · intro i hi s hs
    have hm := hr (ls.getD i []) (by simp [List.getD_eq_getElem?_getD, hi])
    apply Ev.succ
    simp only [impl_ValidMixture.l0, if_pos (show (i : Int) < ls.length by omega), if_pos (show 0 ≤ (i : Int) by omega), if_pos (show (i : Int) ≤ ls.length by omega), rdl_get7 hi, rdl_head7, Int.toNat_natCast]
    refine Ev.bind (vmC_ev (ls.take i) (ls.getD i []) (by simp; omega) (fun r h => hr r (List.mem_of_mem_take h))) ?_
    unfold imRow
    cases (ls.take i).any fun r => decide (r = ls.getD i []) with
    | true =>
      simp only [if_true, Bool.not_true, Bool.false_and]
      exact Ev.now _
    | false =>
      simp only [Bool.false_eq_true, if_false, Bool.not_false, Bool.true_and, if_pos (show 0 < (ls.length : Int) by omega)]
      by_cases e2 : (ls.getD i []).length = (ls.headD []).length
      · simp only [if_pos (show ((ls.getD i []).length : Int) = (ls.headD []).length by omega), decide_eq_true e2, Bool.true_and]
        by_cases e3 : (ls.getD i []).length ≤ 40
        · simp only [if_neg (show ¬ ((ls.getD i []).length : Int) > 40 by omega), decide_eq_true e3, Bool.true_and]
          refine Ev.bind (areWithin_ev (ls.getD i []) (-1000000) 1000000 (by omega)) ?_
          cases (ls.getD i []).all fun n => decide (-1000000 ≤ n ∧ n ≤ 1000000) with
          | true =>
            simp only [if_true, Bool.true_and, inc hi (by omega)]
            exact hs
          | false =>
            simp only [Bool.false_eq_true, if_false, Bool.false_and]
            exact Ev.now _
        · simp only [if_pos (show ((ls.getD i []).length : Int) > 40 by omega), decide_eq_false e3, Bool.false_and]
          exact Ev.now _
      · simp only [if_neg (show ¬ ((ls.getD i []).length : Int) = (ls.headD []).length by omega), decide_eq_false e2, Bool.false_and]
        exact Ev.now _
theorem im_rows (ls : List (List Int)) (h : 1 ≤ ls.length) : (List.range ls.length).all (imRow ls) = (decide ((ls.headD []).length ≤ 40) && (List.range ls.length).all (mxRow ls)) := by
  have hd : ls.getD 0 [] = ls.headD [] := by cases ls <;> rfl
  have tk : ∀ i, i < ls.length → ((ls.take i).any fun r => decide (r = ls.getD i [])) = !((List.range i).all fun j => !decide (ls.getD j [] = ls.getD i [])) := by
    intro i hi
    have := all_range (ls.take i) (fun r => !decide (r = ls.getD i [])) []
    rw [List.length_take, Nat.min_eq_left (by omega)] at this
    rw [show ((List.range i).all fun j => !decide (ls.getD j [] = ls.getD i [])) = (ls.take i).all (fun r => !decide (r = ls.getD i [])) from ?_]
    · generalize ls.getD i [] = x
      induction (ls.take i) with
      | nil => rfl
      | cons y l ih => rw [List.any_cons, List.all_cons, ih, Bool.not_and, Bool.not_not]
    · rw [← this]
      rw [Bool.eq_iff_iff, List.all_eq_true, List.all_eq_true]
      refine forall_congr' fun j => forall_congr' fun hj => ?_
      have hj' : j < i := by simpa using hj
      have : (ls.take i).getD j [] = ls.getD j [] := by simp [List.getD_eq_getElem?_getD, List.getElem?_take, hj']
      rw [this]
  rw [Bool.eq_iff_iff, Bool.and_eq_true, List.all_eq_true, List.all_eq_true, decide_eq_true_iff]
  constructor
  · intro a
    refine ⟨?_, fun i hi => ?_⟩
    · have := a 0 (List.mem_range.2 (by omega))
      simp only [imRow, Bool.and_eq_true, decide_eq_true_eq, hd] at this
      exact this.2.2.1
    · have hi' : i < ls.length := by simpa using hi
      have := a i hi
      simp only [imRow, tk i hi', Bool.not_not, Bool.and_eq_true, decide_eq_true_eq] at this
      simp only [mxRow, Bool.and_eq_true, decide_eq_true_eq]
      exact ⟨this.2.1, this.2.2.2, this.1⟩
  · rintro ⟨a, b⟩ i hi
    have hi' : i < ls.length := by simpa using hi
    have := b i hi
    simp only [mxRow, Bool.and_eq_true, decide_eq_true_eq] at this
    simp only [imRow, tk i hi', Bool.not_not, Bool.and_eq_true, decide_eq_true_eq]
    exact ⟨this.2.2, this.1, by omega, this.2.1⟩
theorem iVM_ev (ws : List Int) (ls : List (List Int)) (hw : ws.length ≤ 1048576) (hl : ls.length ≤ 1048576) (hr : ∀ r ∈ ls, r.length ≤ 1048576) : Ev (fun k => impl_ValidMixture.f k ws ls) (VM ws ls) := by
  unfold impl_ValidMixture.f VM
  simp only [within_eq, impl_size_int64_105.f, Option.bind_some]
  by_cases h1 : 1 ≤ (ls.length : Int) ∧ (ls.length : Int) ≤ 64
  · by_cases h2 : ws.length = ls.length
    · simp only [decide_eq_true h1, decide_eq_true h2, if_true, if_pos (show (ws.length : Int) = ls.length by omega), Bool.true_and]
      refine Ev.bind (areWithin_ev ws 1 1000000 (by omega)) ?_
      have e : mxW ws = ws.all fun n => decide (1 ≤ n ∧ n ≤ 1000000) := rfl
      rw [← e]
      cases mxW ws with
      | true =>
        simp only [if_true, Bool.true_and]
        refine Ev.bind (isum_ev ws (by omega)) ?_
        apply Ev.succ
        by_cases h4 : wsum 0 ws ≤ 1000000
        · simp only [impl_ValidMixture.j0, decide_eq_false (show ¬ wsum 0 ws > 1000000 by omega), Bool.false_eq_true, if_false, decide_eq_true h4, Bool.and_true]
          exact (im_l0 ws ls (by omega) hr).to (im_rows ls (by omega))
        · simp only [impl_ValidMixture.j0, decide_eq_true (show wsum 0 ws > 1000000 by omega), if_true, decide_eq_false h4, Bool.and_false]
          exact Ev.now _
      | false =>
        simp only [Bool.false_eq_true, if_false, Bool.false_and, Bool.and_false]
        apply Ev.succ
        simp only [impl_ValidMixture.j0, if_true]
        exact Ev.now _
    · simp only [decide_eq_true h1, decide_eq_false h2, if_true, if_neg (show ¬ (ws.length : Int) = ls.length by omega), Bool.false_and, Bool.and_false]
      apply Ev.succ
      simp only [impl_ValidMixture.j0, if_true]
      exact Ev.now _
  · simp only [decide_eq_false h1, Bool.false_eq_true, if_false, Bool.false_and]
    apply Ev.succ
    simp only [impl_ValidMixture.j0, if_true]
    exact Ev.now _

/-! impl.ValidValues -/
theorem validValues_ev (den : Int) (vs : List Int) (hv : vs.length ≤ 9223372036854775806) : Ev (fun k => impl_ValidValues.f k den vs) (VV den vs) := by
  unfold impl_ValidValues.f VV
  simp only [within_eq, Option.bind_some]
  by_cases c : 1 ≤ den ∧ den ≤ 1000
  · simp only [decide_eq_true c, if_true, Bool.true_and]
    by_cases c2 : vs.length ≤ 40
    · simp only [decide_eq_true c2, if_pos (show (vs.length : Int) ≤ 40 by omega), Bool.true_and]
      exact Ev.bind (areWithin_ev vs (-1000000) 1000000 hv) (Ev.now _)
    · simp only [decide_eq_false c2, if_neg (show ¬ (vs.length : Int) ≤ 40 by omega), Bool.false_and]
      exact Ev.now _
  · simp only [decide_eq_false c, Bool.false_eq_true, if_false, Bool.false_and]
    exact Ev.now _

/-! impl.floor -/
theorem ifloor_eq {a b : Int} (hb : 0 < b) (h1 : -9223372036854775807 ≤ a) (h2 : a ≤ 9223372036854775807) : impl_floor.f a b = some (a / b) := by
  have r1 := tdiv_range hb h1 h2 (by omega)
  have hf := floorB (a := a) hb
  have e1 : wrap64 (a.tdiv b) = a.tdiv b := w64 (by omega) (by omega)
  unfold impl_floor.f
  rw [if_neg (by omega), e1]
  by_cases h : a.tmod b < 0
  · rw [if_pos h] at hf
    rw [if_pos h, w64 (by omega) (by omega), hf]
  · rw [if_neg h] at hf
    rw [if_neg h, hf]

/-! impl.Values).floors -/
theorem floors_l0 (den : Int) (nums l : List Int) (hd : 1 ≤ den ∧ den ≤ 1000) (hl : l.length ≤ 1048576) (hv : ∀ x ∈ l, -1000000 ≤ x ∧ x ≤ 1000000) : ∀ (e i : Nat), e + i = l.length → Ev (fun k => impl_Values_each_impl_Values_floors_1.l0 k ((l.take i).map fun x => x / den) l (l.length : Int) i den nums) (l.map fun x => x / den) := by
  intro e
  induction e with
  | zero =>
    intro i he
    apply Ev.succ
    simp only [impl_Values_each_impl_Values_floors_1.l0, if_neg (show ¬ (i : Int) < (l.length : Int) by omega)]
    rw [List.take_of_length_le (by omega)]
    exact Ev.now _
  | succ e ih =>
    intro i he
    have hi : i < l.length := by omega
    have hx := hv l[i] (List.getElem_mem hi)
    have := ih (i + 1) (by omega)
    rw [List.take_succ_eq_append_getElem hi, List.map_append] at this
    apply Ev.succ
    simp only [impl_Values_each_impl_Values_floors_1.l0, if_pos (show (i : Int) < (l.length : Int) by omega), if_pos (show 0 ≤ (i : Int) by omega), rd_get hi, impl_Values_floors_1.f, ifloor_eq (show 0 < den by omega) (show -9223372036854775807 ≤ l[i] by omega) (by omega), Option.bind_some, if_pos (show ((l.take i).map fun x => x / den).length < 17592186044416 by simp; omega), inc hi (by omega)]
    exact this
theorem floors_ev (den : Int) (l : List Int) (hd : 1 ≤ den ∧ den ≤ 1000) (hl : l.length ≤ 1048576) (hv : ∀ x ∈ l, -1000000 ≤ x ∧ x ≤ 1000000) : Ev (fun k => impl_Values_floors.f k den l) (l.map fun x => x / den) := by
  have := floors_l0 den l l hd hl hv l.length 0 (by omega)
  unfold impl_Values_floors.f impl_Values_each_impl_Values_floors_1.f
  exact Ev.bind this (Ev.now _)

/-! impl.ceiling -/
theorem iceil_eq {a b : Int} (hb : 0 < b) (h1 : -1000000000000 ≤ a) (h2 : a ≤ 1000000000000) : impl_ceiling.f a b = some (ceilOf a b) := by
  have hr := ceil_range (m := 1000000000000) hb h1 h2 (by omega)
  unfold impl_ceiling.f ceilOf
  rw [w64 (show (-9223372036854775808) ≤ -a by omega) (by omega), ifloor_eq hb (by omega) (by omega), Option.bind_some, w64 (by omega) (by omega)]

/-! impl.Values).ceilings -/
theorem ceilings_l0 (den : Int) (nums l : List Int) (hd : 1 ≤ den ∧ den ≤ 1000) (hl : l.length ≤ 1048576) (hv : ∀ x ∈ l, -1000000 ≤ x ∧ x ≤ 1000000) : ∀ (e i : Nat), e + i = l.length → Ev (fun k => impl_Values_each_impl_Values_ceilings_1.l0 k ((l.take i).map fun x => ceilOf x den) l (l.length : Int) i den nums) (l.map fun x => ceilOf x den) := by
  intro e
  induction e with
  | zero =>
    intro i he
    apply Ev.succ
    simp only [impl_Values_each_impl_Values_ceilings_1.l0, if_neg (show ¬ (i : Int) < (l.length : Int) by omega)]
    rw [List.take_of_length_le (by omega)]
    exact Ev.now _
  | succ e ih =>
    intro i he
    have hi : i < l.length := by omega
    have hx := hv l[i] (List.getElem_mem hi)
    have := ih (i + 1) (by omega)
    rw [List.take_succ_eq_append_getElem hi, List.map_append] at this
    apply Ev.succ
    simp only [impl_Values_each_impl_Values_ceilings_1.l0, if_pos (show (i : Int) < (l.length : Int) by omega), if_pos (show 0 ≤ (i : Int) by omega), rd_get hi, impl_Values_ceilings_1.f, iceil_eq (show 0 < den by omega) (show -1000000000000 ≤ l[i] by omega) (by omega), Option.bind_some, if_pos (show ((l.take i).map fun x => ceilOf x den).length < 17592186044416 by simp; omega), inc hi (by omega)]
    exact this
theorem ceilings_ev (den : Int) (l : List Int) (hd : 1 ≤ den ∧ den ≤ 1000) (hl : l.length ≤ 1048576) (hv : ∀ x ∈ l, -1000000 ≤ x ∧ x ≤ 1000000) : Ev (fun k => impl_Values_ceilings.f k den l) (l.map fun x => ceilOf x den) := by
  have := ceilings_l0 den l l hd hl hv l.length 0 (by omega)
  unfold impl_Values_ceilings.f impl_Values_each_impl_Values_ceilings_1.f
  exact Ev.bind this (Ev.now _)

/-! impl.IsRounding -/
theorem isRounding_ev (den : Int) (nums l : List Int) (hn : nums.length ≤ 1048576) : Ev (fun k => impl_IsRounding.f k den nums l) (VV den nums && RND den nums l) := by
  unfold impl_IsRounding.f
  refine Ev.bind (validValues_ev den nums (by omega)) ?_
  cases hv : VV den nums with
  | false =>
    simp only [Bool.false_eq_true, if_false, Bool.false_and]
    apply Ev.succ
    simp only [impl_IsRounding.j0, if_true]
    exact Ev.now _
  | true =>
    simp only [VV, Bool.and_eq_true, decide_eq_true_eq, List.all_eq_true] at hv
    obtain ⟨hd, hlen, hx⟩ := hv
    simp only [if_true, Bool.true_and]
    unfold RND
    by_cases c : l.length = nums.length
    · rw [show ((l.length : Int) != (nums.length : Int)) = false by simp [c], decide_eq_true c, Bool.true_and]
      apply Ev.succ
      simp only [impl_IsRounding.j0, Bool.false_eq_true, if_false]
      refine Ev.bind (floors_ev den nums hd hn hx) (Ev.bind (ceilings_ev den nums hd hn hx) ?_)
      have h := all_step l.length (rnd1 den nums l) (fun k i => impl_IsRounding.l0 k (nums.map fun x => x / den) (nums.map fun x => ceilOf x den) l (l.length : Int) i) (r := true) ?_ ?_
      · rw [Bool.and_true] at h
        exact h
      · apply Ev.succ
        simp only [impl_IsRounding.l0, if_neg (show ¬ (l.length : Int) < l.length by omega)]
        exact Ev.now _
      · intro i hi s hs
        apply Ev.succ
        simp only [impl_IsRounding.l0, List.length_map, if_pos (show (i : Int) < l.length by omega), if_pos (show 0 ≤ (i : Int) by omega), if_pos (show (i : Int) < nums.length by omega), rrd, getD_map (fun x => x / den) 0 0 (show i < nums.length by omega), getD_map (fun x => ceilOf x den) 0 0 (show i < nums.length by omega)]
        unfold rnd1
        by_cases e1 : l.getD i 0 = nums.getD i 0 / den
        · simp only [if_pos e1, decide_eq_true e1, Bool.true_or, Bool.true_and, inc hi (by omega)]
          exact hs
        · simp only [if_neg e1, decide_eq_false e1, Bool.false_or]
          by_cases e2 : l.getD i 0 = ceilOf (nums.getD i 0) den
          · simp only [if_pos e2, decide_eq_true e2, Bool.true_and, inc hi (by omega)]
            exact hs
          · simp only [if_neg e2, decide_eq_false e2, Bool.false_and]
            exact Ev.now _
    · rw [show ((l.length : Int) != (nums.length : Int)) = true by simp; omega, decide_eq_false c, Bool.false_and]
      apply Ev.succ
      simp only [impl_IsRounding.j0, if_true]
      exact Ev.now _

/-! impl.Mixture).totals -/
theorem mt_dl {xs : List (List Int)} {i : Nat} : rd_L1 xs (i : Int) = xs.getD i [] := by
  unfold rd_L1; simp
theorem mt_d0 (xs : List (List Int)) : rd_L1 xs 0 = xs.headD [] := by
  unfold rd_L1; cases xs <;> rfl
theorem mt_l1 (W : List Int) (L : List (List Int)) (h : MB W L) (i : Nat) (n : Nat) (hi : i < L.length) (hn : (L.getD i []).length = n) (hs : n ≤ 1048576) {R : List Int} (hR : Ev (fun k => impl_Mixture_totals.l0 k (stair (mcol W L) n (i + 1) 0) L (L.length : Int) (wrap64 ((i : Int) + 1)) W L) R) : ∀ (d j : Nat), d + j = n → Ev (fun k => impl_Mixture_totals.l1 k (stair (mcol W L) n i j) i L (L.length : Int) i (L.getD i []) (n : Int) j W L) R := by
  intro d
  induction d with
  | zero =>
    intro j hd
    apply Ev.succ
    simp only [impl_Mixture_totals.l1, if_neg (show ¬ (j : Int) < (n : Int) by omega)]
    rw [show j = n by omega, stair_end]
    exact hR
  | succ d ih =>
    intro j hd
    have hw := h.1
    apply Ev.succ
    simp only [impl_Mixture_totals.l1, stair_length, hn, if_pos (show (j : Int) < (n : Int) by omega), if_pos (show 0 ≤ (j : Int) by omega), if_pos (show 0 ≤ (i : Int) by omega), if_pos (show (i : Int) < (W.length : Int) by omega), mrd, Int.toNat_natCast, inc (show j < n by omega) (by omega)]
    rw [stair_get _ _ _ _ _ (show j < n by omega), if_neg (show ¬ j < j by omega), mb_wrap h i j hi, stair_set _ _ _ _ (show j < n by omega)]
    exact ih (j + 1) (by omega)
theorem mt_l0 (W : List Int) (L : List (List Int)) (h : MB W L) (n : Nat) (hl : L.length ≤ 1048576) (hn : ∀ i, i < L.length → (L.getD i []).length = n) (hs : n ≤ 1048576) : ∀ (d i : Nat), d + i = L.length → Ev (fun k => impl_Mixture_totals.l0 k (stair (mcol W L) n i 0) L (L.length : Int) i W L) (stair (mcol W L) n L.length 0) := by
  intro d
  induction d with
  | zero =>
    intro i hd
    apply Ev.succ
    simp only [impl_Mixture_totals.l0, if_neg (show ¬ (i : Int) < (L.length : Int) by omega)]
    rw [show i = L.length by omega]
    exact Ev.now _
  | succ d ih =>
    intro i hd
    apply Ev.succ
    simp only [impl_Mixture_totals.l0, if_pos (show (i : Int) < (L.length : Int) by omega), if_pos (show 0 ≤ (i : Int) by omega), mt_dl, hn i (show i < L.length by omega)]
    refine mt_l1 W L h i n (by omega) (hn i (by omega)) hs ?_ n 0 (by omega)
    rw [inc (show i < L.length by omega) (by omega)]
    exact ih (i + 1) (by omega)
theorem totals_ev (W : List Int) (L : List (List Int)) (h : MB W L) (h0 : 0 < L.length) (hl : L.length ≤ 1048576) (hn : ∀ i, i < L.length → (L.getD i []).length = (L.headD []).length) (hs : (L.headD []).length ≤ 1048576) : Ev (fun k => impl_Mixture_totals.f k W L) (mtot W L) := by
  simp only [impl_Mixture_totals.f, if_pos (show 0 < (L.length : Int) by omega), mt_d0, if_pos (show 0 ≤ ((L.headD []).length : Int) by omega), Int.toNat_natCast, if_pos (show (L.headD []).length ≤ 35184372088832 by omega)]
  rw [mcol_first W L]
  exact (mt_l0 W L h (L.headD []).length hl hn hs L.length 0 (by omega)).to (mcol_last W L)

/-! impl.isSet -/
theorem isSet1_ev (a n : Int) (h0 : 0 ≤ n) (h1 : n ≤ 1048576) : Ev (fun k => impl_isSet.f k [a] n) (decide (0 ≤ a ∧ a ≤ n - 1)) := by
  unfold impl_isSet.f
  apply Ev.succ
  have hr : rd [a] 0 = a := rfl
  simp only [impl_isSet.l0, List.length_singleton, if_pos (show (0 : Int) < ((1 : Nat) : Int) by omega), if_pos (show (0 : Int) ≤ 0 by omega), hr, within_eq, Option.bind_some, w64 (show (-9223372036854775808) ≤ n - 1 by omega) (by omega), if_neg (show ¬ (0 : Int) > 0 by omega)]
  by_cases h : 0 ≤ a ∧ a ≤ n - 1
  · simp only [decide_eq_true h, if_true, w64 (show (-9223372036854775808) ≤ (0 : Int) + 1 by omega) (by omega)]
    apply Ev.succ
    simp only [impl_isSet.l0, List.length_singleton, if_neg (show ¬ (0 + 1 : Int) < ((1 : Nat) : Int) by omega)]
    exact Ev.now _
  · simp only [decide_eq_false h, Bool.false_eq_true, if_false]
    exact Ev.now _
theorem isSet_ev (l : List Int) (n : Int) (hl : l.length ≤ 1048576) (h0 : 0 ≤ n) (h1 : n ≤ 1048576) : Ev (fun k => impl_isSet.f k l n) (RSET l (n - 1)) := by
  have := all_step l.length (fun i => decide (0 ≤ l.getD i 0 ∧ l.getD i 0 ≤ n - 1) && decide (i = 0 ∨ l.getD (i - 1) 0 < l.getD i 0)) (fun k i => impl_isSet.l0 k l n l (l.length : Int) (i : Int)) (r := true) (by
    apply Ev.succ
    simp only [impl_isSet.l0, if_neg (show ¬ (l.length : Int) < (l.length : Int) by omega)]
    exact Ev.now _) (by
    intro i hi' s hs
    apply Ev.succ
    simp only [impl_isSet.l0, if_pos (show (i : Int) < (l.length : Int) by omega), if_pos (show 0 ≤ (i : Int) by omega), rdNc, within_eq, Option.bind_some, inc hi' (by omega), w64 (show (-9223372036854775808) ≤ n - 1 by omega) (by omega)]
    by_cases c : 0 ≤ l.getD i 0 ∧ l.getD i 0 ≤ n - 1
    · simp only [decide_eq_true c, if_true, Bool.true_and]
      by_cases c0 : i = 0
      · subst c0
        simp only [if_neg (show ¬ ((0 : Nat) : Int) > 0 by omega)]
        exact hs.to (by simp)
      · have e : wrap64 ((i : Int) - 1) = ((i - 1 : Nat) : Int) := by rw [w64 (by omega) (by omega)]; omega
        simp only [if_pos (show (i : Int) > 0 by omega), e, if_pos (show 0 ≤ ((i - 1 : Nat) : Int) by omega), if_pos (show ((i - 1 : Nat) : Int) < (l.length : Int) by omega), rdNc]
        by_cases c1 : l.getD i 0 ≤ l.getD (i - 1) 0
        · simp only [if_pos c1]
          refine (Ev.now _).to ?_
          rw [decide_eq_false (show ¬ (i = 0 ∨ l.getD (i - 1) 0 < l.getD i 0) by omega)]; rfl
        · simp only [if_neg c1]
          refine hs.to ?_
          rw [decide_eq_true (show (i = 0 ∨ l.getD (i - 1) 0 < l.getD i 0) by omega)]; rfl
    · simp only [decide_eq_false c, Bool.false_eq_true, if_false, Bool.false_and]
      exact Ev.now _)
  unfold impl_isSet.f RSET
  rw [Bool.and_true] at this
  exact this

/-! slices.Sort   int64,int64  -/
theorem sort_eq {l : List Int} (h0 : 0 < l.length) (h : l.length < 4611686018427387904) : slices_Sort_int64_int64.f l = some (SORT l) := by
  unfold slices_Sort_int64_int64.f
  rw [if_neg (fun e => by rw [e] at h0; simp at h0), if_pos h]
  rfl

/-! impl.SystematicIn -/
theorem rdl_s {xs : List (List Int)} {i : Nat} (h : i < xs.length) : rd_L1 xs (i : Int) = xs[i] := by
  unfold rd_L1; exact getD_get h
theorem am1_ev (r x : List Int) (hr : r.length ≤ 1048576) : Ev (fun k => impl_Mixture_addTo_1.f k r x) (decide (r = x)) := by
  unfold impl_Mixture_addTo_1.f
  exact Ev.bind (slEqual_ev r x (by omega)) (Ev.now _)
theorem amI_l0 (L : List (List Int)) (x : List Int) (hl : L.length ≤ 1048576) (hr : ∀ r ∈ L, r.length ≤ 1048576) : ∀ (d i : Nat), d + i = L.length → (∀ j, j < i → L.getD j [] ≠ x) → Ev (fun k => slices_IndexFunc_int64_int64_impl_Mixture_addTo_1.l0 k L (L.length : Int) (i : Int) x) (if fidx L x < L.length then (fidx L x : Int) else -1) := by
  intro d
  induction d with
  | zero =>
    intro i hd hj
    have e : i = L.length := by omega
    subst e
    have hf : fidx L x = L.length := fidx_eq L x L.length hj (Nat.le_refl _) (fun h => absurd h (Nat.lt_irrefl _))
    rw [if_neg (by omega)]
    apply Ev.succ
    simp only [slices_IndexFunc_int64_int64_impl_Mixture_addTo_1.l0, if_neg (show ¬ (L.length : Int) < L.length by omega)]
    exact Ev.now _
  | succ d ih =>
    intro i hd hj
    have hi : i < L.length := by omega
    have g : L.getD i [] = L[i] := by simp [List.getD_eq_getElem?_getD, hi]
    apply Ev.succ
    simp only [slices_IndexFunc_int64_int64_impl_Mixture_addTo_1.l0, if_pos (show (i : Int) < L.length by omega), if_pos (show 0 ≤ (i : Int) by omega), rdl_s hi]
    refine Ev.bind (am1_ev L[i] x (hr _ (List.getElem_mem hi))) ?_
    by_cases c : L[i] = x
    · have hf : fidx L x = i := fidx_eq L x i hj (by omega) (fun _ => by rw [g]; exact c)
      simp only [decide_eq_true c, if_true]
      rw [hf, if_pos hi]
      exact Ev.now _
    · simp only [decide_eq_false c, Bool.false_eq_true, if_false, inc hi (by omega)]
      exact ih (i + 1) (by omega) (fun j hj' => by
        by_cases e : j = i
        · subst e; rw [g]; exact c
        · exact hj j (by omega))
theorem addTo_ev (W : List Int) (L : List (List Int)) (x : List Int) (w : Int) (hl : L.length ≤ 1048575) (hr : ∀ r ∈ L, r.length ≤ 1048576) (hwl : W.length = L.length) (hw : ∀ y ∈ W, 0 ≤ y ∧ y ≤ 1000000000) (hw2 : 0 ≤ w ∧ w ≤ 1000000000) : Ev (fun k => impl_Mixture_addTo.f k W L x w) (addM W L x w) := by
  unfold impl_Mixture_addTo.f addM slices_IndexFunc_int64_int64_impl_Mixture_addTo_1.f
  refine Ev.bind (amI_l0 L x (by omega) hr L.length 0 (by omega) (fun j hj => absurd hj (Nat.not_lt_zero _))) ?_
  by_cases c : fidx L x < L.length
  · have hb := hw (W.getD (fidx L x) 0) (getD_mem (by omega))
    simp only [if_pos c, if_neg (show ¬ ((fidx L x : Nat) : Int) < 0 by omega), if_pos (show 0 ≤ ((fidx L x : Nat) : Int) by omega), if_pos (show ((fidx L x : Nat) : Int) < (W.length : Int) by omega), mrd, w64 (show (-9223372036854775808) ≤ W.getD (fidx L x) 0 + w by omega) (by omega), Int.toNat_natCast]
    exact Ev.now _
  · simp only [if_neg c, if_pos (show (-1 : Int) < 0 by omega), Option.bind_some, List.length_singleton, if_pos (show L.length + 1 < 5864062014805 by omega), if_pos (show W.length + 1 < 17592186044416 by omega)]
    exact Ev.now _
theorem si_l1 (D : Int) (nums o : List Int) (n : Nat) (hD : 1 ≤ D ∧ D ≤ 1000) (hn : nums.length = n) (hn40 : n ≤ 40) (hv : ∀ x ∈ nums, -1000000 ≤ x ∧ x ≤ 1000000) (hol : o.length = n) (ho : ∀ x ∈ o, 0 ≤ x ∧ x < n) (t : Int) (ht : 0 ≤ t ∧ t ≤ 1000) (W : List Int) (L : List (List Int)) {s : List Int × List (List Int) × Bool} : ∀ (d i : Nat) (a : Int) (l : List Int), d + i = n → l.length = n → -(1000000 * (i : Int)) ≤ a → a ≤ 1000 + 1000000 * i →
    Ev (fun k => (impl_Mixture_addTo.f k W L (srow D nums (o.drop i) a l) 1).bind fun bt => impl_SystematicIn.l0 k o D (t + 1) D nums bt.1 bt.2) s → Ev (fun k => impl_SystematicIn.l1 k o l a D t o (o.length : Int) (i : Int) D nums W L) s := by
  intro d
  induction d with
  | zero =>
    intro i a l hi hl a0 a1 hs
    rw [List.drop_of_length_le (by omega)] at hs
    apply Ev.succ
    simp only [impl_SystematicIn.l1, if_neg (show ¬ (i : Int) < (o.length : Int) by omega), w64 (show (-9223372036854775808) ≤ t + 1 by omega) (by omega)]
    exact hs
  | succ d ih =>
    intro i a l hi hl a0 a1 hs
    have hio : i < o.length := by omega
    have hq := ho o[i] (List.getElem_mem hio)
    obtain ⟨m, hm⟩ := Int.eq_ofNat_of_zero_le hq.1
    have hmn : m < nums.length := by omega
    have hvv := hv (nums.getD m 0) (getD_mem hmn)
    have e1 : rd o (i : Int) = (m : Int) := by rw [rd_get hio]; exact hm
    have e2 : rd nums (m : Int) = nums.getD m 0 := mrd
    have f1 := ediv_range (a := a + nums.getD m 0) (b := D) (m := 100000000) (by omega) (by omega) (by omega) (by omega)
    have f2 := ediv_range (a := a) (b := D) (m := 100000000) (by omega) (by omega) (by omega) (by omega)
    have ed : srow D nums (o.drop i) a l = srow D nums (o.drop (i + 1)) (a + nums.getD m 0) (l.set m ((a + nums.getD m 0) / D - a / D)) := by
      rw [List.drop_eq_getElem_cons hio, srow, hm, Int.toNat_natCast]
    rw [ed] at hs
    have := ih (i + 1) (a + nums.getD m 0) (l.set m ((a + nums.getD m 0) / D - a / D)) (by omega) (by simpa using hl) (by omega) (by omega) hs
    apply Ev.succ
    simp only [impl_SystematicIn.l1, if_pos (show (i : Int) < (o.length : Int) by omega), if_pos (show 0 ≤ (i : Int) by omega), e1, if_pos (show 0 ≤ (m : Int) by omega), if_pos (show (m : Int) < (nums.length : Int) by omega), e2, w64 (show (-9223372036854775808) ≤ a + nums.getD m 0 by omega) (by omega), ifloor_eq (a := a + nums.getD m 0) (b := D) (by omega) (by omega) (by omega), ifloor_eq (a := a) (b := D) (by omega) (by omega) (by omega), Option.bind_some, if_pos (show (m : Int) < (l.length : Int) by omega), w64 (show (-9223372036854775808) ≤ (a + nums.getD m 0) / D - a / D by omega) (by omega), Int.toNat_natCast, inc hio (by omega)]
    exact this
theorem si_l0 (D : Int) (nums o : List Int) (n : Nat) (hD : 1 ≤ D ∧ D ≤ 1000) (hn : nums.length = n) (hn40 : n ≤ 40) (hv : ∀ x ∈ nums, -1000000 ≤ x ∧ x ≤ 1000000) (hol : o.length = n) (ho : ∀ x ∈ o, 0 ≤ x ∧ x < n) : ∀ (e t : Nat), (e + t : Int) = D → Ev (fun k => impl_SystematicIn.l0 k o D (t : Int) D nums (sysM D nums o n t).1 (sysM D nums o n t).2) ((sysM D nums o n D.toNat).1, (sysM D nums o n D.toNat).2, true) := by
  intro e
  induction e with
  | zero =>
    intro t he
    have e : D.toNat = t := by omega
    rw [e]
    apply Ev.succ
    simp only [impl_SystematicIn.l0, if_neg (show ¬ (t : Int) < D by omega)]
    exact Ev.now _
  | succ e ih =>
    intro t he
    obtain ⟨g1, g2, g3, g4, g5, g6⟩ := sysM_inv D nums o n t
    have hb := mem_le_sum g4
    rw [sysM_sum] at hb
    have h1 := ih (t + 1) (by omega)
    have h2 := addTo_ev (sysM D nums o n t).1 (sysM D nums o n t).2 (srow D nums o (t : Int) (List.replicate n 0)) 1 (by omega) (fun r hr => by
      obtain ⟨s, _, rfl⟩ := (g5 r).1 hr
      rw [srow_length, List.length_replicate]; omega) g1 (fun y hy => by
      have := g4 y hy; have := hb.1 y hy; omega) (by omega)
    apply Ev.succ
    simp only [impl_SystematicIn.l0, if_pos (show (t : Int) < D by omega), hol, if_pos (show 0 ≤ (n : Int) by omega), Int.toNat_natCast, if_pos (show n ≤ 35184372088832 by omega)]
    have h3 := si_l1 D nums o n hD hn hn40 hv hol ho (t : Int) (by omega) (sysM D nums o n t).1 (sysM D nums o n t).2 (s := ((sysM D nums o n D.toNat).1, (sysM D nums o n D.toNat).2, true)) n 0 (t : Int) (List.replicate n 0) (by omega) (by simp) (by omega) (by omega) (by
      rw [List.drop_zero]
      refine Ev.bind h2 ?_
      rw [show ((t : Int) + 1) = ((t + 1 : Nat) : Int) by omega]
      exact h1)
    rw [hol] at h3
    exact h3
/-- What SystematicIn answers. -/
theorem sysin_ev (D : Int) (nums o : List Int) (hn : nums.length ≤ 1048576) (hol : o.length ≤ 1048576) : Ev (fun k => impl_SystematicIn.f k D nums o) (if VV D nums = true ∧ o.length = nums.length ∧ RSET (o.mergeSort (fun x y => decide (x ≤ y))) ((o.length : Int) - 1) = true then ((sysM D nums o o.length D.toNat).1, (sysM D nums o o.length D.toNat).2, true) else ([], [], false)) := by
  have hno : Ev (fun k => impl_SystematicIn.j0 k o true D nums) ([], [], false) := by
    apply Ev.succ
    simp only [impl_SystematicIn.j0, if_true]
    exact Ev.now _
  unfold impl_SystematicIn.f
  refine Ev.bind (validValues_ev D nums (by omega)) ?_
  cases hV : VV D nums with
  | false =>
    simp only [Bool.false_eq_true, if_false, false_and]
    exact hno
  | true =>
    simp only [if_true, true_and]
    by_cases c : o.length = nums.length
    · simp only [if_pos (show (o.length : Int) = (nums.length : Int) by omega), if_pos (show 0 ≤ (o.length : Int) by omega), Int.toNat_natCast, if_pos (show o.length ≤ 17592186043904 by omega), impl_size_int64_65.f, Option.bind_some]
      refine Ev.bind (isSet_ev _ _ (by rw [List.length_mergeSort]; omega) (by omega) (by omega)) ?_
      cases hR : RSET (o.mergeSort (fun x y => decide (x ≤ y))) ((o.length : Int) - 1) with
      | false =>
        simp only [Bool.not_false, Bool.false_eq_true, and_false, if_false]
        exact hno
      | true =>
        rw [if_pos ⟨c, rfl⟩]
        simp only [VV, Bool.and_eq_true, decide_eq_true_eq, List.all_eq_true] at hV
        obtain ⟨hd, h40, hx⟩ := hV
        have hin : ∀ x ∈ o, 0 ≤ x ∧ x < (o.length : Int) := fun x hx' => by
          have := rs_mem hR x ((List.mergeSort_perm o _).mem_iff.2 hx')
          omega
        apply Ev.succ
        simp only [impl_SystematicIn.j0, Bool.not_true, Bool.false_eq_true, if_false]
        exact si_l0 D nums o o.length hd (by omega) (by omega) hx rfl hin D.toNat 0 (by omega)
    · simp only [if_neg (show ¬ (o.length : Int) = (nums.length : Int) by omega), c, false_and, if_false]
      exact hno

/-! impl.sums -/
theorem rdl_getS {xs : List (List Int)} {i : Nat} (h : i < xs.length) : rd_L1 xs (i : Int) = xs[i] := by
  unfold rd_L1; exact getD_get h
theorem sums_l0 (l : List (List Int)) (hl : l.length ≤ 1048576) (hr : ∀ r ∈ l, r.length ≤ 1048576) : ∀ (d i : Nat), d + i = l.length → Ev (fun k => impl_sums.l0 k ((l.take i).map (wsum 0)) l (l.length : Int) i) (l.map (wsum 0)) := by
  intro d
  induction d with
  | zero =>
    intro i hd
    apply Ev.succ
    simp only [impl_sums.l0, if_neg (show ¬ (i : Int) < (l.length : Int) by omega)]
    rw [List.take_of_length_le (by omega)]
    exact Ev.now _
  | succ d ih =>
    intro i hd
    have hi : i < l.length := by omega
    have hm := hr l[i] (List.getElem_mem hi)
    apply Ev.succ
    simp only [impl_sums.l0, if_pos (show (i : Int) < (l.length : Int) by omega), if_pos (show 0 ≤ (i : Int) by omega), rdl_getS hi, inc hi (by omega)]
    refine Ev.bind (isum_ev l[i] (by omega)) ?_
    simp only [if_pos (show ((l.take i).map (wsum 0)).length < 17592186044416 by simp; omega)]
    have := ih (i + 1) (by omega)
    rw [List.take_succ_eq_append_getElem hi, List.map_append] at this
    exact this
theorem sums_ev (l : List (List Int)) (hl : l.length ≤ 1048576) (hr : ∀ r ∈ l, r.length ≤ 1048576) : Ev (fun k => impl_sums.f k l) (l.map (wsum 0)) := by
  have := sums_l0 l hl hr l.length 0 (by omega)
  unfold impl_sums.f
  exact this

/-! slices.Compact   int64,int64  -/
theorem compact_eq {l : List Int} (h0 : 0 < l.length) : slices_Compact_int64_int64.f l = some (Go.Lib.compact l) := by
  unfold slices_Compact_int64_int64.f
  rw [if_neg (fun e => by rw [e] at h0; simp at h0)]

/-! impl.SystematicMixture -/
theorem sm_l0' (D : Int) (nums : List Int) (hn : nums.length ≤ 1048576) {s : List Int × List (List Int) × Bool} (hs : Ev (fun k => impl_SystematicIn.f k D nums (upI nums.length)) s) : ∀ (d i : Nat), d + i = nums.length → Ev (fun k => impl_SystematicMixture.l0 k (upI i) (nums.length : Int) (i : Int) D nums) s := by
  intro d
  induction d with
  | zero =>
    intro i hi
    have e : i = nums.length := by omega
    subst e
    apply Ev.succ
    simp only [impl_SystematicMixture.l0, if_neg (show ¬ (nums.length : Int) < (nums.length : Int) by omega)]
    exact Ev.bind hs (Ev.now _)
  | succ d ih =>
    intro i hi
    have h := ih (i + 1) (by omega)
    have e : upI (i + 1) = upI i ++ [(i : Int)] := by unfold upI; rw [List.range_succ, List.map_append]; rfl
    rw [e] at h
    apply Ev.succ
    simp only [impl_SystematicMixture.l0, if_pos (show (i : Int) < (nums.length : Int) by omega), upI_length, if_pos (show i < 17592186044416 by omega), inc (show i < nums.length by omega) (by omega)]
    exact h
theorem sysmix_ev (D : Int) (nums : List Int) (hn : nums.length ≤ 1048576) {s : List Int × List (List Int) × Bool} (hs : Ev (fun k => impl_SystematicIn.f k D nums (upI nums.length)) s) : Ev (fun k => impl_SystematicMixture.f k D nums) s := sm_l0' D nums hn hs nums.length 0 (by omega)

/-! spec.l00Src).next -/
theorem rd_byte {c : List Int} (hc : ∀ x ∈ c, 0 ≤ x ∧ x ≤ 255) (i : Int) : 0 ≤ rd c i ∧ rd c i ≤ 255 := by
  unfold rd
  by_cases h : i.toNat < c.length
  · rw [List.getD_eq_getElem?_getD, List.getElem?_eq_getElem h]
    exact hc _ (List.getElem_mem h)
  · rw [List.getD_eq_getElem?_getD, List.getElem?_eq_none (by omega)]
    simp
theorem next_ok (c : List Int) (a s : Int) (hc : ∀ x ∈ c, 0 ≤ x ∧ x ≤ 255) (h0 : 0 ≤ a) (h1 : a ≤ 4611686018427387904) : ∃ v s', spec_l00Src_next.f c a s = some (v, a + 1, s') ∧ 0 ≤ v ∧ v ≤ 255 := by
  have hb := rd_byte hc a
  have e1 : wrap64 (a + 1) = a + 1 := w64 (by omega) (by omega)
  have hv : ∀ X : Int, 0 ≤ wrap64 (Go.bits .and .u64 ((IntKind.u64.wrap X) / 1099511627776) 255) ∧ wrap64 (Go.bits .and .u64 ((IntKind.u64.wrap X) / 1099511627776) 255) ≤ 255 := by
    intro X
    have h := u64_range X
    generalize IntKind.u64.wrap X = Y at h
    rw [bits255 _ (by omega) (by omega), w64 (by omega) (by omega)]
    omega
  unfold spec_l00Src_next.f
  by_cases h : a < (c.length : Int)
  · rw [if_pos h, if_pos h0, e1, if_pos (by omega), w64 (by omega) (by omega)]
    exact ⟨_, _, rfl, hb.1, hb.2⟩
  · rw [if_neg h, e1, if_neg (by omega)]
    exact ⟨_, _, rfl, (hv _).1, (hv _).2⟩

/-! spec.l00Src).pick -/
theorem pick_ok (c : List Int) (a s n : Int) (hc : ∀ x ∈ c, 0 ≤ x ∧ x ≤ 255) (h0 : 0 ≤ a) (h1 : a ≤ 4611686018427387900) (hn : 1 ≤ n) : ∃ v a' s', spec_l00Src_pick.f c a s n = some (v, a', s') ∧ 0 ≤ v ∧ v < n ∧ a ≤ a' ∧ a' ≤ a + 2 := by
  have hm : ∀ x : Int, 0 ≤ x → 2 ≤ n → 0 ≤ x.tmod n ∧ x.tmod n < n := fun x hx h2 => ⟨Int.tmod_nonneg n hx, Int.tmod_lt_of_pos x (by omega)⟩
  unfold spec_l00Src_pick.f
  by_cases h : n ≤ 1
  · rw [if_pos h]
    exact ⟨_, _, _, rfl, by omega, by omega, by omega, by omega⟩
  · rw [if_neg h]
    obtain ⟨v, s1, e, v0, v1⟩ := next_ok c a s hc h0 (by omega)
    rw [e, Option.bind_some]
    by_cases h2 : n > 200
    · obtain ⟨v', s2, e2, v2, v3⟩ := next_ok c (a + 1) s1 hc (by omega) (by omega)
      rw [if_pos h2, e2, Option.bind_some, if_neg (by omega), w64 (show -9223372036854775808 ≤ v * 256 by omega) (by omega), w64 (by omega) (by omega)]
      have := hm (v * 256 + v') (by omega) (by omega)
      exact ⟨_, _, _, rfl, this.1, this.2, by show a ≤ a + 1 + 1; omega, by show a + 1 + 1 ≤ a + 2; omega⟩
    · rw [if_neg h2, if_neg (by omega)]
      have := hm v v0 (by omega)
      exact ⟨_, _, _, rfl, this.1, this.2, by show a ≤ a + 1; omega, by show a + 1 ≤ a + 2; omega⟩

/-! spec.R8Values -/
theorem r8v_l0 (c : List Int) (hc : ∀ x ∈ c, 0 ≤ x ∧ x ≤ 255) (D : Int) : ∀ (e : Nat) (a s : Int) (nums : List Int), e ≤ 7 → 0 ≤ a → a + 2 * e ≤ 4000 → nums.length + e ≤ 7 → (∀ x ∈ nums, -12 ≤ x ∧ x ≤ 27) → ∃ r : List Int, Ev (fun k => spec_R8Values.l0 k (e : Int) c a s D nums) (D, r) ∧ r.length ≤ 7 ∧ ∀ x ∈ r, -12 ≤ x ∧ x ≤ 27 := by
  intro e
  induction e with
  | zero =>
    intro a s nums _ _ _ hl hx
    refine ⟨nums, ?_, by omega, hx⟩
    apply Ev.succ
    simp only [spec_R8Values.l0, if_neg (show ¬ ((0 : Nat) : Int) > 0 by omega)]
    exact Ev.now _
  | succ e ih =>
    intro a s nums he h0 h1 hl hx
    obtain ⟨v, a1, s1, hp, v0, v1, q0, q1⟩ := pick_ok c a s 40 hc h0 (by omega) (by omega)
    obtain ⟨r, hr, hr1, hr2⟩ := ih a1 s1 (nums ++ [v - 12]) (by omega) (by omega) (by omega) (by simp; omega) (fun x hx' => by
      rcases List.mem_append.1 hx' with h | h
      · exact hx x h
      · rw [List.mem_singleton.1 h]; omega)
    refine ⟨r, ?_, hr1, hr2⟩
    have ew : wrap64 (((e + 1 : Nat) : Int) - 1) = (e : Int) := by rw [w64 (by omega) (by omega)]; omega
    apply Ev.succ
    simp only [spec_R8Values.l0, if_pos (show ((e + 1 : Nat) : Int) > 0 by omega), hp, Option.bind_some, if_pos (show nums.length < 17592186044416 by omega), ew, w64 (show (-9223372036854775808) ≤ v - 12 by omega) (by omega)]
    exact hr
theorem r8v_ev (c : List Int) (hc : ∀ x ∈ c, 0 ≤ x ∧ x ≤ 255) : ∃ (D : Int) (r : List Int), Ev (fun k => spec_R8Values.f k c) (D, r) ∧ (1 ≤ D ∧ D ≤ 12) ∧ r.length ≤ 7 ∧ ∀ x ∈ r, -12 ≤ x ∧ x ≤ 27 := by
  obtain ⟨v, a1, s1, hp, v0, v1, q0, q1⟩ := pick_ok c 0 0 12 hc (by omega) (by omega) (by omega)
  obtain ⟨n, a2, s2, hp2, n0, n1, q2, q3⟩ := pick_ok c a1 s1 8 hc (by omega) (by omega) (by omega)
  obtain ⟨m, hm⟩ := Int.eq_ofNat_of_zero_le n0
  obtain ⟨r, hr, hr1, hr2⟩ := r8v_l0 c hc (1 + v) m a2 s2 [] (by omega) (by omega) (by omega) (by simp; omega) (fun x hx => by simp at hx)
  refine ⟨1 + v, r, ?_, by omega, hr1, hr2⟩
  unfold spec_R8Values.f
  simp only [spec_l00From.f, Option.bind_some, hp, hp2, w64 (show (-9223372036854775808) ≤ 1 + v by omega) (by omega), hm]
  exact hr

/-! spec.l04All -/
theorem all4_l0 (n : Nat) (hn : n ≤ 1000) : ∀ (e i : Nat), e + i = n → Ev (fun k => spec_l04All.l0 k (n : Int) ((List.range i).map fun j : Nat => (j : Int)) (i : Int)) ((List.range n).map fun j : Nat => (j : Int)) := by
  intro e
  induction e with
  | zero =>
    intro i hi
    have e : i = n := by omega
    subst e
    apply Ev.succ
    simp only [spec_l04All.l0, if_neg (show ¬ (i : Int) < (i : Int) by omega)]
    exact Ev.now _
  | succ e ih =>
    intro i hi
    have h := ih (i + 1) (by omega)
    rw [List.range_succ, List.map_append] at h
    apply Ev.succ
    simp only [spec_l04All.l0, if_pos (show (i : Int) < (n : Int) by omega), if_pos (show ((List.range i).map fun j : Nat => (j : Int)).length < 17592186044416 by simp; omega), inc (show i < n by omega) (by omega)]
    exact h
theorem all4_ev (n : Nat) (hn : n ≤ 1000) : Ev (fun k => spec_l04All.f k (n : Int)) ((List.range n).map fun j : Nat => (j : Int)) := all4_l0 n hn n 0 (by omega)

/-! spec.l06DrawOrder -/
theorem dor_l0 (c : List Int) (hc : ∀ x ∈ c, 0 ≤ x ∧ x ≤ 255) (n : Nat) (hn : n ≤ 40) : ∀ (e : Nat) (i : Int) (o : List Int) (a s : Int), (i = e ∨ (e = 0 ∧ i ≤ 0)) → e ≤ n - 1 → o.length = n → (∀ x ∈ o, 0 ≤ x ∧ x < n) → 0 ≤ a → a + 2 * e ≤ 4000 → ∃ (r : List Int) (a' s' : Int), Ev (fun k => spec_l06DrawOrder.l0 k o i c a s) (r, a', s') ∧ r.length = n ∧ (∀ x ∈ r, 0 ≤ x ∧ x < n) ∧ a ≤ a' ∧ a' ≤ a + 2 * e := by
  intro e
  induction e with
  | zero =>
    intro i o a s hi _ hl hx _ _
    refine ⟨o, a, s, ?_, hl, hx, by omega, by omega⟩
    apply Ev.succ
    simp only [spec_l06DrawOrder.l0, if_neg (show ¬ i > 0 by omega)]
    exact Ev.now _
  | succ e ih =>
    intro i o a s hi he hl hx h0 h1
    have hi : i = (e : Int) + 1 := by omega
    have hen : e + 1 < n := by omega
    obtain ⟨v, a1, s1, hp, v0, v1, q0, q1⟩ := pick_ok c a s (i + 1) hc h0 (by omega) (by omega)
    obtain ⟨m, hm⟩ := Int.eq_ofNat_of_zero_le v0
    have hm' : m < o.length := by omega
    have g1 : rd o i ∈ o := by rw [show i = ((e + 1 : Nat) : Int) by omega, rd_get (show e + 1 < o.length by omega)]; exact List.getElem_mem _
    have g2 : rd o v ∈ o := by rw [hm]; exact (rd_get hm') ▸ List.getElem_mem hm'
    obtain ⟨r, a', s', hr, hr1, hr2, hr3, hr4⟩ := ih (i - 1) ((o.set v.toNat (rd o i)).set i.toNat (rd o v)) a1 s1 (by omega) (by omega) (by simp; omega) (fun x hx' => by
      rcases List.mem_or_eq_of_mem_set hx' with h | h
      · rcases List.mem_or_eq_of_mem_set h with h | h
        · exact hx x h
        · rw [h]; exact hx _ g1
      · rw [h]; exact hx _ g2) (by omega) (by omega)
    refine ⟨r, a', s', ?_, hr1, hr2, by omega, by omega⟩
    apply Ev.succ
    simp only [spec_l06DrawOrder.l0, if_pos (show i > 0 by omega), w64 (show (-9223372036854775808) ≤ i + 1 by omega) (by omega), hp, Option.bind_some, if_pos v0, if_pos (show v < (o.length : Int) by omega), if_pos (show 0 ≤ i by omega), if_pos (show i < (o.length : Int) by omega), w64 (show (-9223372036854775808) ≤ i - 1 by omega) (by omega)]
    exact hr
theorem dor_ev (c : List Int) (hc : ∀ x ∈ c, 0 ≤ x ∧ x ≤ 255) (n : Nat) (hn : n ≤ 40) (a s : Int) (h0 : 0 ≤ a) (h1 : a ≤ 1000) : ∃ (r : List Int) (a' s' : Int), Ev (fun k => spec_l06DrawOrder.f k c a s (n : Int)) (r, a', s') ∧ r.length = n ∧ (∀ x ∈ r, 0 ≤ x ∧ x < n) ∧ a ≤ a' ∧ a' ≤ a + 80 := by
  obtain ⟨r, a', s', hr, hr1, hr2, hr3, hr4⟩ := dor_l0 c hc n hn (n - 1) ((n : Int) - 1) ((List.range n).map fun j : Nat => (j : Int)) a s (by omega) (by omega) (by simp) (fun x hx => by
    obtain ⟨j, hj, rfl⟩ := List.mem_map.1 hx
    have := List.mem_range.1 hj
    omega) h0 (by omega)
  refine ⟨r, a', s', ?_, hr1, hr2, hr3, by omega⟩
  unfold spec_l06DrawOrder.f
  refine Ev.bind (all4_ev n (by omega)) ?_
  simp only [w64 (show (-9223372036854775808) ≤ (n : Int) - 1 by omega) (by omega)]
  exact hr
theorem dorp_l0 (c : List Int) (hc : ∀ x ∈ c, 0 ≤ x ∧ x ≤ 255) (n : Nat) (hn : n ≤ 40) : ∀ (e : Nat) (i : Int) (o : List Int) (a s : Int), (i = e ∨ (e = 0 ∧ i ≤ 0)) → e ≤ n - 1 → o.length = n → 0 ≤ a → a + 2 * e ≤ 4000 → ∃ (r : List Int) (a' s' : Int), Ev (fun k => spec_l06DrawOrder.l0 k o i c a s) (r, a', s') ∧ r.Perm o := by
  intro e
  induction e with
  | zero =>
    intro i o a s hi _ hl _ _
    refine ⟨o, a, s, ?_, List.Perm.refl _⟩
    apply Ev.succ
    simp only [spec_l06DrawOrder.l0, if_neg (show ¬ i > 0 by omega)]
    exact Ev.now _
  | succ e ih =>
    intro i o a s hi he hl h0 h1
    have hi : i = (e : Int) + 1 := by omega
    obtain ⟨v, a1, s1, hp, v0, v1, q0, q1⟩ := pick_ok c a s (i + 1) hc h0 (by omega) (by omega)
    obtain ⟨m, hm⟩ := Int.eq_ofNat_of_zero_le v0
    have hm' : m < o.length := by omega
    have he' : e + 1 < o.length := by omega
    have g1 : rd o i = o[e + 1] := by rw [show i = ((e + 1 : Nat) : Int) by omega, rd_get he']
    have g2 : rd o v = o[m] := by rw [hm]; exact rd_get hm'
    obtain ⟨r, a', s', hr, hr1⟩ := ih (i - 1) ((o.set v.toNat (rd o i)).set i.toNat (rd o v)) a1 s1 (by omega) (by omega) (by simp; omega) (by omega) (by omega)
    have hsw := swap_perm o m (e + 1) hm' he'
    refine ⟨r, a', s', ?_, hr1.trans ?_⟩
    · apply Ev.succ
      simp only [spec_l06DrawOrder.l0, if_pos (show i > 0 by omega), w64 (show (-9223372036854775808) ≤ i + 1 by omega) (by omega), hp, Option.bind_some, if_pos v0, if_pos (show v < (o.length : Int) by omega), if_pos (show 0 ≤ i by omega), if_pos (show i < (o.length : Int) by omega), w64 (show (-9223372036854775808) ≤ i - 1 by omega) (by omega)]
      exact hr
    · rw [g1, g2, hm, Int.toNat_natCast, show i.toNat = e + 1 by omega]
      exact hsw
theorem dorp_ev (c : List Int) (hc : ∀ x ∈ c, 0 ≤ x ∧ x ≤ 255) (n : Nat) (hn : n ≤ 40) (a s : Int) (h0 : 0 ≤ a) (h1 : a ≤ 1000) : ∃ (r : List Int) (a' s' : Int), Ev (fun k => spec_l06DrawOrder.f k c a s (n : Int)) (r, a', s') ∧ r.Perm (upI n) := by
  obtain ⟨r, a', s', hr, hr1⟩ := dorp_l0 c hc n hn (n - 1) ((n : Int) - 1) (upI n) a s (by omega) (by omega) (upI_length n) h0 (by omega)
  refine ⟨r, a', s', ?_, hr1⟩
  unfold spec_l06DrawOrder.f
  refine Ev.bind (all4_ev n (by omega)) ?_
  simp only [w64 (show (-9223372036854775808) ≤ (n : Int) - 1 by omega) (by omega)]
  exact hr

/-! spec.R8Order -/
theorem r8o_ev (c : List Int) (hc : ∀ x ∈ c, 0 ≤ x ∧ x ≤ 255) (n : Nat) (hn : n ≤ 40) : ∃ r : List Int, Ev (fun k => spec_R8Order.f k c (n : Int)) r ∧ r.Perm (upI n) := by
  obtain ⟨r, a', s', hr, hp⟩ := dorp_ev c hc n hn 0 0 (by omega) (by omega)
  refine ⟨r, ?_, hp⟩
  unfold spec_R8Order.f
  simp only [spec_l00From.f, Option.bind_some]
  exact Ev.bind hr (Ev.now _)

/-! the law -/
theorem rdl_w {xs : List (List Int)} {i : Nat} (h : i < xs.length) : rd_L1 xs (i : Int) = xs[i] := by
  unfold rd_L1; exact getD_get h
theorem sums_get {ls : List (List Int)} {i : Nat} (h : i < ls.length) : (ls.map (wsum 0)).getD i 0 = wsum 0 ls[i] := by
  rw [getD_map _ [] _ h]
  congr 1
  simp [List.getD_eq_getElem?_getD, h]
theorem index_l0 (l : List Int) (x : Int) (hl : l.length ≤ 1048576) : ∀ (d i : Nat), i + d = l.length → (∃ j, i ≤ j ∧ j < l.length ∧ l.getD j 0 = x) → ∃ j, j < l.length ∧ l.getD j 0 = x ∧ Ev (fun k => slices_Index_int64_int64.l0 k l x (l.length : Int) (i : Int)) (j : Int) := by
  intro d
  induction d with
  | zero => rintro i hi ⟨j, h1, h2, _⟩; omega
  | succ d ih =>
    rintro i hi ⟨j, h1, h2, h3⟩
    have hi' : i < l.length := by omega
    by_cases c : l.getD i 0 = x
    · refine ⟨i, hi', c, ?_⟩
      apply Ev.succ
      simp only [slices_Index_int64_int64.l0, if_pos (show (i : Int) < (l.length : Int) by omega), if_pos (show 0 ≤ (i : Int) by omega), if_pos (show x = rd l (i : Int) by rw [← c]; unfold rd; simp)]
      exact Ev.now _
    · obtain ⟨j', a, b, e⟩ := ih (i + 1) (by omega) ⟨j, by
        rcases Nat.lt_or_eq_of_le h1 with h | h
        · omega
        · subst h; exact absurd h3 c, h2, h3⟩
      refine ⟨j', a, b, ?_⟩
      apply Ev.succ
      simp only [slices_Index_int64_int64.l0, if_pos (show (i : Int) < (l.length : Int) by omega), if_pos (show 0 ≤ (i : Int) by omega), if_neg (show ¬ x = rd l (i : Int) by
        intro e; apply c; rw [e]; unfold rd; simp), inc hi' (by omega)]
      exact e
theorem index_ev {l : List Int} {x : Int} (hl : l.length ≤ 1048576) (h : x ∈ l) : ∃ j, j < l.length ∧ l.getD j 0 = x ∧ Ev (fun k => slices_Index_int64_int64.f k l x) (j : Int) := by
  obtain ⟨j, h1, h2⟩ := mem_getD h
  obtain ⟨j', a, b, e⟩ := index_l0 l x hl l.length 0 (by omega) ⟨j, by omega, h1, h2⟩
  refine ⟨j', a, b, ?_⟩
  unfold slices_Index_int64_int64.f
  exact e
theorem rdN (l : List Int) (j : Nat) : rd l (j : Int) = l.getD j 0 := by unfold rd; simp
/-- The program's loop. -/
theorem isw_l0 (W : List Int) (ls : List (List Int)) (hl : ls.length ≤ 1048576) (hr : ∀ r ∈ ls, r.length ≤ 1048576) (hW : ls.length ≤ W.length) : ∀ (d i : Nat), i + d = ls.length →
    Ev (fun k => impl_SumWeights.l0 k (KEYS ls) (WAT W (ls.map (wsum 0)) (KEYS ls) i) ls (ls.length : Int) (i : Int) W ls) (KEYS ls, WAT W (ls.map (wsum 0)) (KEYS ls) ls.length, true) := by
  have hkl := keys_length ls
  intro d
  induction d with
  | zero =>
    intro i hi
    obtain rfl : i = ls.length := by omega
    apply Ev.succ
    simp only [impl_SumWeights.l0, if_neg (show ¬ (ls.length : Int) < (ls.length : Int) by omega)]
    exact Ev.now _
  | succ d ih =>
    intro i hi
    have hi' : i < ls.length := by omega
    have hm : wsum 0 ls[i] ∈ KEYS ls := keys_mem.2 (List.mem_map.2 ⟨ls[i], List.getElem_mem hi', rfl⟩)
    obtain ⟨j, hj, ej, hev⟩ := index_ev (by omega) hm
    have hst := wat_step (W := W) (S := ls.map (wsum 0)) (k := i) (keys_rise ls) hj (by rw [sums_get hi']; exact ej)
    apply Ev.succ
    simp only [impl_SumWeights.l0, if_pos (show (i : Int) < (ls.length : Int) by omega), if_pos (show 0 ≤ (i : Int) by omega), rdl_w hi']
    refine Ev.bind (isum_ev ls[i] (by have := hr _ (List.getElem_mem hi'); omega)) (Ev.bind hev ?_)
    simp only [if_pos (show 0 ≤ (j : Int) by omega), wat_length, if_pos (show (j : Int) < ((KEYS ls).length : Int) by omega), if_pos (show (i : Int) < (W.length : Int) by omega), rdN, wat_get hj, Int.toNat_natCast, hst, inc hi' (by omega)]
    exact ih (i + 1) (by omega)
theorem vm_ps {ws : List Int} {ls : List (List Int)} (h : VM ws ls = true) : wsum 0 ws = ws.sum ∧ (∀ i, i ≤ ws.length → 0 ≤ psum ws i ∧ psum ws i ≤ 1000000) ∧ ∀ d i, i + d ≤ ws.length → psum ws i ≤ psum ws (i + d) := by
  obtain ⟨f1, f2, f3, f4, f5, f6, f7⟩ := vm_facts h
  have hs : wsum 0 ws = ws.sum := by
    rw [wsum_eq 1000000 ws 0 (fun x hx => by have := f5 x hx; omega) (by omega) (by omega) (by omega)]; omega
  have hmono := psum_mono ws (fun w hw' => (f5 w hw').1)
  have hall := psum_all ws
  have hz := psum_zero ws
  rw [hs] at f7
  refine ⟨hs, ?_, hmono⟩
  intro i hi
  have a := hmono i 0 (by omega)
  have b := hmono (ws.length - i) i (by omega)
  rw [Nat.zero_add, hz] at a
  rw [show i + (ws.length - i) = ws.length by omega, hall] at b
  omega
theorem vm_rows {ws : List Int} {ls : List (List Int)} (h : VM ws ls = true) : ∀ r ∈ ls, r.length ≤ 1048576 := by
  obtain ⟨f1, f2, f3, f4, f5, f6, f7⟩ := vm_facts h
  intro r hr
  obtain ⟨j, hj, rfl⟩ := List.getElem_of_mem hr
  have := (f6 j hj).1
  rw [show ls.getD j [] = ls[j] by simp [List.getD_eq_getElem?_getD, hj]] at this
  omega
theorem vm_MB {ws : List Int} {ls : List (List Int)} (h : VM ws ls = true) : MB ws ls := by
  obtain ⟨f1, f2, f3, f4, f5, f6, f7⟩ := vm_facts h
  exact ⟨f3, fun w hw' => (f5 w hw').1, fun i hi => ((vm_ps h).2.1 i hi).2, fun i hi => (f6 i hi).2⟩
theorem sw_val {W : List Int} {ls : List (List Int)} (h : VM W ls = true) : Ev (fun k => impl_SumWeights.f k W ls) (KEYS ls, WAT W (ls.map (wsum 0)) (KEYS ls) ls.length, true) := by
  obtain ⟨f1, f2, f3, f4, f5, f6, f7⟩ := vm_facts h
  have hr := vm_rows h
  have hl : ls.length ≤ 1048576 := by omega
  have hkl := keys_length ls
  unfold impl_SumWeights.f
  refine Ev.bind ((iVM_ev W ls (by omega) hl hr).to h) ?_
  simp only [if_true]
  have hs : 0 < (ls.map (wsum 0)).length := by rw [List.length_map]; omega
  have hs2 : 0 < (SORT (ls.map (wsum 0))).length := by rw [sort_length]; exact hs
  refine Ev.bind (sums_ev ls hl hr) ?_
  rw [sort_eq hs (by rw [List.length_map]; omega)]
  simp only [Option.bind_some, compact_eq hs2]
  have := isw_l0 W ls hl hr (by omega) ls.length 0 (by omega)
  rw [wat_zero] at this
  have e : Go.Lib.compact (SORT (ls.map (wsum 0))) = KEYS ls := rfl
  simp only [e, if_pos (show 0 ≤ ((KEYS ls).length : Int) by omega), Int.toNat_natCast, if_pos (show (KEYS ls).length ≤ 35184372088832 by omega)]
  exact this
theorem r8w_l0 (l : List Int) (hl : l.length ≤ 1048576) : ∀ (d i : Nat), d + i = l.length → Ev (fun k => laws_r8Sum.l0 k l (wsum 0 (l.take i)) i) (wsum 0 l) := by
  intro d
  induction d with
  | zero =>
    intro i hd
    apply Ev.succ
    simp only [laws_r8Sum.l0, if_neg (show ¬ (i : Int) < l.length by omega)]
    rw [List.take_of_length_le (by omega)]
    exact Ev.now _
  | succ d ih =>
    intro i hd
    have hi : i < l.length := by omega
    apply Ev.succ
    simp only [laws_r8Sum.l0, if_pos (show (i : Int) < l.length by omega), if_pos (show 0 ≤ (i : Int) by omega), mrd, take_wsum l i hi, inc hi (by omega)]
    exact ih (i + 1) (by omega)
theorem r8w_ev (l : List Int) (hl : l.length ≤ 1048576) : Ev (fun k => laws_r8Sum.f k l) (wsum 0 l) := r8w_l0 l hl l.length 0 (by omega)
theorem mo_dl {xs : List (List Int)} {i : Nat} (h : i < xs.length) : rd_L1 xs (i : Int) = xs[i] := by
  unfold rd_L1; exact getD_get h
theorem moC_ev (den : Int) (nums : List Int) (ls : List (List Int)) (hn : nums.length ≤ 1048576) (hl : ls.length ≤ 1048576) : Ev (fun k => slices_ContainsFunc_int64_int64_impl_IsMixtureOf_1.f k ls den nums) (!ls.all fun r => VV den nums && RND den nums r) := by
  rw [← any_not]
  have h1 : ∀ r, Ev (fun k => impl_IsMixtureOf_1.f k r den nums) (!(VV den nums && RND den nums r)) := by
    intro r
    unfold impl_IsMixtureOf_1.f
    exact Ev.bind (isRounding_ev den nums r hn) (Ev.now _)
  obtain ⟨r, hr1, hr2⟩ := find_loop ls (fun r => !(VV den nums && RND den nums r)) (fun k j => slices_IndexFunc_int64_int64_impl_IsMixtureOf_1.l0 k ls (ls.length : Int) j den nums)
    (by
      apply Ev.succ
      simp only [slices_IndexFunc_int64_int64_impl_IsMixtureOf_1.l0, if_neg (show ¬ (ls.length : Int) < ls.length by omega)]
      exact Ev.now _)
    (fun i hi hp => by
      apply Ev.succ
      simp only [slices_IndexFunc_int64_int64_impl_IsMixtureOf_1.l0, if_pos (show (i : Int) < (ls.length : Int) by omega), if_pos (show 0 ≤ (i : Int) by omega), mo_dl hi]
      refine Ev.bind (h1 ls[i]) ?_
      simp only [hp, if_true]
      exact Ev.now _)
    (fun i hi hp r hr' => by
      apply Ev.succ
      simp only [slices_IndexFunc_int64_int64_impl_IsMixtureOf_1.l0, if_pos (show (i : Int) < (ls.length : Int) by omega), if_pos (show 0 ≤ (i : Int) by omega), mo_dl hi]
      refine Ev.bind (h1 ls[i]) ?_
      simp only [hp, Bool.false_eq_true, if_false, inc hi (by omega)]
      exact hr')
  simp only [slices_ContainsFunc_int64_int64_impl_IsMixtureOf_1.f, slices_IndexFunc_int64_int64_impl_IsMixtureOf_1.f]
  refine Ev.bind hr1 ?_
  refine (Ev.now _).to ?_
  rw [hr2]
def moEq (tot nums : List Int) (t den : Int) (i : Nat) : Bool := decide (wrap64 (tot.getD i 0 * den) = wrap64 (nums.getD i 0 * t))
theorem mo_i1 (ws : List Int) (ls : List (List Int)) (den : Int) (nums tot : List Int) (hw : ws.length ≤ 1048576) (hlen : tot.length = nums.length) (hn : nums.length ≤ 1048576) : Ev (fun k => impl_IsMixtureOf.l0 k tot (tot.length : Int) 0 ws ls den nums) ((List.range tot.length).all (moEq tot nums (wsum 0 ws) den)) := by
  have h := all_step tot.length (moEq tot nums (wsum 0 ws) den) (fun k i => impl_IsMixtureOf.l0 k tot (tot.length : Int) i ws ls den nums) (r := true) ?_ ?_
  · rw [Bool.and_true] at h
    exact h
  · apply Ev.succ
    simp only [impl_IsMixtureOf.l0, if_neg (show ¬ (tot.length : Int) < tot.length by omega)]
    exact Ev.now _
  · intro i hi s hs
    apply Ev.succ
    simp only [impl_IsMixtureOf.l0, if_pos (show (i : Int) < tot.length by omega), if_pos (show 0 ≤ (i : Int) by omega), if_pos (show (i : Int) < nums.length by omega), mrd]
    refine Ev.bind (isum_ev ws (by omega)) ?_
    unfold moEq
    by_cases e : wrap64 (tot.getD i 0 * den) = wrap64 (nums.getD i 0 * wsum 0 ws)
    · simp only [if_pos e, decide_eq_true e, Bool.true_and, inc hi (by omega)]
      exact hs
    · simp only [if_neg e, decide_eq_false e, Bool.false_and]
      exact Ev.now _
/-- A mixture of roundings with the right totals. -/
theorem imo_true (ws : List Int) (ls : List (List Int)) (den : Int) (nums : List Int) (hw : ws.length ≤ 1048576) (hl : ls.length ≤ 1048576) (hn : nums.length ≤ 1048576) (h : VM ws ls = true) (hv : VV den nums = true) (hr : ∀ r ∈ ls, RND den nums r = true) (ht : ∀ i, i < nums.length → (mtot ws ls).getD i 0 = nums.getD i 0) (hs : ws.sum = den) : Ev (fun k => impl_IsMixtureOf.f k ws ls den nums) true := by
  obtain ⟨f1, f2, f3, f4, f5, f6, f7⟩ := vm_facts h
  obtain ⟨hps, _, _⟩ := vm_ps h
  have hMB := vm_MB h
  have hrl := vm_rows h
  have hhl : ∀ i, i < ls.length → (ls.getD i []).length = (ls.headD []).length := fun i hi => (f6 i hi).1
  have hh : (ls.headD []).length = nums.length := by
    cases ls with
    | nil => simp at f1
    | cons a l =>
      have := hr a List.mem_cons_self
      simp only [RND, Bool.and_eq_true, decide_eq_true_eq] at this
      exact this.1
  unfold impl_IsMixtureOf.f
  refine Ev.bind ((iVM_ev ws ls hw hl hrl).to h) ?_
  simp only [if_true]
  refine Ev.bind ((moC_ev den nums ls hn hl).to (r' := false) ?_) ?_
  · rw [Bool.not_eq_false', List.all_eq_true]
    intro r hr'
    rw [hv, hr r hr']; rfl
  · apply Ev.succ
    simp only [impl_IsMixtureOf.j0, Bool.false_eq_true, if_false]
    refine Ev.bind (totals_ev ws ls hMB (by omega) hl hhl (by omega)) ?_
    refine (mo_i1 ws ls den nums (mtot ws ls) hw (by rw [mtot_length, hh]) hn).to ?_
    rw [List.all_eq_true]
    intro i hi
    have hi' : i < nums.length := by
      have := List.mem_range.1 hi
      rw [mtot_length] at this
      omega
    unfold moEq
    rw [ht i hi', hps, hs, decide_eq_true rfl]
theorem upI_rset (n : Nat) : RSET (upI n) ((n : Int) - 1) = true := by
  unfold RSET
  rw [List.all_eq_true]
  intro i hi
  have hi' : i < n := by have := List.mem_range.1 hi; rwa [upI_length] at this
  rw [upI_getD hi', Bool.and_eq_true]
  refine ⟨decide_eq_true (by omega), decide_eq_true ?_⟩
  by_cases c : i = 0
  · exact .inl c
  · right
    rw [upI_getD (by omega)]
    omega
theorem sofar_bnd (nums : List Int) (hx : ∀ x ∈ nums, -12 ≤ x ∧ x ≤ 27) : ∀ o : List Int, -(27 * (o.length : Int)) ≤ sofar nums o ∧ sofar nums o ≤ 27 * (o.length : Int)
  | [] => by simp [sofar]
  | i :: o => by
    have := sofar_bnd nums hx o
    rw [sofar_cons, List.length_cons]
    have h : -12 ≤ nums.getD i.toNat 0 ∧ nums.getD i.toNat 0 ≤ 27 := by
      by_cases c : i.toNat < nums.length
      · exact hx _ (getD_mem c)
      · rw [List.getD_eq_getElem?_getD, List.getElem?_eq_none (by omega)]; simp
    omega
theorem sofar_take (nums o : List Int) (i : Nat) (h : i < o.length) : sofar nums (o.take (i + 1)) = sofar nums (o.take i) + nums.getD (o[i]).toNat 0 := by
  unfold sofar
  rw [List.take_succ_eq_append_getElem h, List.map_append, List.sum_append]
  simp
theorem upto_take (l o : List Int) (i : Nat) (h : i < o.length) : ((o.take (i + 1)).map fun j => l.getD j.toNat 0).sum = ((o.take i).map fun j => l.getD j.toNat 0).sum + l.getD (o[i]).toNat 0 := by
  rw [List.take_succ_eq_append_getElem h, List.map_append, List.sum_append]
  simp
theorem fs_l1 (D : Int) (nums o W : List Int) (L : List (List Int)) (q : Nat) (t : Int) (hq : q < L.length) (hL : L.length ≤ 64) (hp : o.Perm (upI nums.length)) (hn : nums.length ≤ 7) (hx : ∀ x ∈ nums, -12 ≤ x ∧ x ≤ 27) (hD : D ≤ 12) (h0 : 0 ≤ t) (h1 : t < D) (hr : L[q] = srow D nums o t (List.replicate nums.length 0)) (hs : Ev (fun k => laws_FnSystematic.l0 k o ((q : Int) + 1) D nums W L) true) : ∀ (d i : Nat), d + i = nums.length → Ev (fun k => laws_FnSystematic.l1 k o (q : Int) (sofar nums (o.take i)) (((o.take i).map fun j => (L[q]).getD j.toNat 0).sum) (i : Int) D nums W L) true := by
  have hol : o.length = nums.length := by rw [hp.length_eq, upI_length]
  have hlen : (L[q]).length = nums.length := by rw [hr, srow_length, List.length_replicate]
  have hpre : ∀ i, ((o.take i).map fun j => (L[q]).getD j.toNat 0).sum = (t + sofar nums (o.take i)) / D - t / D := by
    intro i
    have := srow_pre D nums (o.drop i) (o.take i) t (List.replicate nums.length 0) (by rw [List.take_append_drop]; exact perm_toNat hp) (fun j hj => by
      have := upI_mem.1 (hp.mem_iff.1 (List.mem_of_mem_take hj))
      rw [List.length_replicate]; omega)
    rw [List.take_append_drop] at this
    rw [hr]
    exact this
  intro d
  induction d with
  | zero =>
    intro i hi
    apply Ev.succ
    simp only [laws_FnSystematic.l1, if_neg (show ¬ (i : Int) < (o.length : Int) by omega), w64 (show (-9223372036854775808) ≤ (q : Int) + 1 by omega) (by omega)]
    exact hs
  | succ d ih =>
    intro i hi
    have hio : i < o.length := by omega
    have hm0 := upI_mem.1 (hp.mem_iff.1 (List.getElem_mem hio))
    obtain ⟨m, hm⟩ := Int.eq_ofNat_of_zero_le hm0.1
    have hmn : m < nums.length := by omega
    have e1 : rd o (i : Int) = (m : Int) := by rw [rd_get hio]; exact hm
    have b1 := sofar_bnd nums hx (o.take i)
    have b2 := sofar_bnd nums hx (o.take (i + 1))
    rw [List.length_take] at b1 b2
    have p1 := hpre i
    have p2 := hpre (i + 1)
    have f1 := ediv_range (a := t + sofar nums (o.take i)) (b := D) (m := 1000) (by omega) (by omega) (by omega) (by omega)
    have f2 := ediv_range (a := t + sofar nums (o.take (i + 1))) (b := D) (m := 1000) (by omega) (by omega) (by omega) (by omega)
    have f3 := ediv_range (a := t) (b := D) (m := 1000) (by omega) (by omega) (by omega) (by omega)
    have ht := upto_take L[q] o i hio
    have hx2 := sofar_take nums o i hio
    rw [hm, Int.toNat_natCast] at ht hx2
    have near := start_near (D := D) (t := t) (S := sofar nums (o.take (i + 1))) h0 h1
    rw [← p2] at near
    have h := ih (i + 1) (by omega)
    generalize hE : sofar nums (o.take i) = E at *
    generalize hE2 : sofar nums (o.take (i + 1)) = E2 at *
    generalize hS : ((o.take i).map fun j => (L[q]).getD j.toNat 0).sum = S at *
    generalize hS2 : ((o.take (i + 1)).map fun j => (L[q]).getD j.toNat 0).sum = S2 at *
    have hmul : -100000 ≤ D * S2 ∧ D * S2 ≤ 100000 := by
      constructor <;> omega
    apply Ev.succ
    simp only [laws_FnSystematic.l1, if_pos (show (i : Int) < (o.length : Int) by omega), if_pos (show 0 ≤ (i : Int) by omega), e1, if_pos (show 0 ≤ (m : Int) by omega), if_pos (show (m : Int) < (nums.length : Int) by omega), if_pos (show 0 ≤ (q : Int) by omega), if_pos (show (q : Int) < (L.length : Int) by omega), rdl_w hq, hlen, mrd, ← ht, ← hx2, w64 (show (-9223372036854775808) ≤ S2 by omega) (by omega), w64 (show (-9223372036854775808) ≤ E2 by omega) (by omega), w64 (show (-9223372036854775808) ≤ D * S2 by omega) (by omega), w64 (show (-9223372036854775808) ≤ D * S2 - E2 by omega) (by omega)]
    have hab : laws_r8Abs.f (D * S2 - E2) = some (if D * S2 - E2 < 0 then -(D * S2 - E2) else D * S2 - E2) := by
      unfold laws_r8Abs.f
      by_cases c : D * S2 - E2 < 0
      · rw [if_pos c, if_pos c, w64 (by omega) (by omega)]
      · rw [if_neg c, if_neg c]
    rw [hab]
    have hno : ¬ (if D * S2 - E2 < 0 then -(D * S2 - E2) else D * S2 - E2) ≥ D := by
      split <;> omega
    simp only [Option.bind_some, if_neg hno, inc hio (by omega)]
    exact h
theorem fs_l0 (D : Int) (nums o W : List Int) (L : List (List Int)) (hL : L.length ≤ 64) (hp : o.Perm (upI nums.length)) (hn : nums.length ≤ 7) (hx : ∀ x ∈ nums, -12 ≤ x ∧ x ≤ 27) (hD : D ≤ 12) (hm : ∀ l ∈ L, ∃ t : Int, 0 ≤ t ∧ t < D ∧ l = srow D nums o t (List.replicate nums.length 0)) : ∀ (d q : Nat), d + q = L.length → Ev (fun k => laws_FnSystematic.l0 k o (q : Int) D nums W L) true := by
  intro d
  induction d with
  | zero =>
    intro q hq
    apply Ev.succ
    simp only [laws_FnSystematic.l0, if_neg (show ¬ (q : Int) < (L.length : Int) by omega)]
    exact Ev.now _
  | succ d ih =>
    intro q hq
    have hq' : q < L.length := by omega
    obtain ⟨t, h0, h1, hr⟩ := hm L[q] (List.getElem_mem hq')
    have := fs_l1 D nums o W L q t hq' hL hp hn hx hD h0 h1 hr (by
      have := ih (q + 1) (by omega)
      rwa [show ((q + 1 : Nat) : Int) = (q : Int) + 1 by omega] at this) nums.length 0 (by omega)
    apply Ev.succ
    simp only [laws_FnSystematic.l0, if_pos (show (q : Int) < (L.length : Int) by omega)]
    exact this
/-- What is known of the mixture of all starts in an order. -/
theorem sys_all (D : Int) (nums o : List Int) (hD : 1 ≤ D ∧ D ≤ 12) (hn : nums.length ≤ 7) (hx : ∀ x ∈ nums, -12 ≤ x ∧ x ≤ 27) (hp : o.Perm (upI nums.length)) : ∃ (W : List Int) (L : List (List Int)), Ev (fun k => impl_SystematicIn.f k D nums o) (W, L, true) ∧ VM W L = true ∧ Ev (fun k => impl_IsMixtureOf.f k W L D nums) true ∧ W.sum = D ∧ ∀ l ∈ L, ∃ t : Int, 0 ≤ t ∧ t < D ∧ l = srow D nums o t (List.replicate nums.length 0) := by
  have hol : o.length = nums.length := by rw [hp.length_eq, upI_length]
  have hV : VV D nums = true := by
    simp only [VV, Bool.and_eq_true, decide_eq_true_eq, List.all_eq_true]
    exact ⟨by omega, by omega, fun x hx' => by have := hx x hx'; omega⟩
  have hs := sysin_ev D nums o (by omega) (by omega)
  rw [sort_perm hp, hol, if_pos ⟨hV, rfl, upI_rset _⟩] at hs
  have hDn : (D.toNat : Int) = D := by omega
  have hv6 : ∀ x ∈ nums, -1000000 ≤ x ∧ x ≤ 1000000 := fun x hx' => by have := hx x hx'; omega
  have hvm := sys_vm (D := D) (nums := nums) (o := o) (n := nums.length) (t := D.toNat) (by omega) hp rfl (by omega) hv6 (by omega) (by omega)
  have hsum := sysM_sum D nums o nums.length D.toNat
  obtain ⟨g1, g2, g3, g4, g5, g6⟩ := sysM_inv D nums o nums.length D.toNat
  have hrows : ∀ r ∈ (sysM D nums o nums.length D.toNat).2, RND D nums r = true := by
    intro r hr
    obtain ⟨s, _, rfl⟩ := (g5 r).1 hr
    exact start_rnd (by omega) hp rfl _
  have hhd : ((sysM D nums o nums.length D.toNat).2.headD []).length = nums.length := by
    obtain ⟨f1, f2, f3, f4, f5, f6, f7⟩ := vm_facts hvm
    generalize (sysM D nums o nums.length D.toNat).2 = L at *
    cases L with
    | nil => simp at f1
    | cons a l =>
      have := hrows a List.mem_cons_self
      simp only [RND, Bool.and_eq_true, decide_eq_true_eq] at this
      exact this.1
  have htot : ∀ i, i < nums.length → (mtot (sysM D nums o nums.length D.toNat).1 (sysM D nums o nums.length D.toNat).2).getD i 0 = nums.getD i 0 := by
    intro i hi
    unfold mtot
    rw [hhd]
    have e : ((List.range nums.length).map (mcol (sysM D nums o nums.length D.toNat).1 (sysM D nums o nums.length D.toNat).2 (sysM D nums o nums.length D.toNat).2.length)).getD i 0 = mcol (sysM D nums o nums.length D.toNat).1 (sysM D nums o nums.length D.toNat).2 (sysM D nums o nums.length D.toNat).2.length i := by
      simp [List.getD_eq_getElem?_getD, hi]
    rw [e, mcol_wphi, g6]
    have := start_total (D := D.toNat) (by omega) (nums := nums) (o := o) hp hi
    rw [hDn] at this
    exact this
  obtain ⟨f1, f2, f3, f4, f5, f6, f7⟩ := vm_facts hvm
  refine ⟨_, _, hs, hvm, imo_true _ _ D nums (by omega) (by omega) (by omega) hvm hV hrows htot (by rw [hsum]; exact hDn), by rw [hsum]; exact hDn, fun l hl => ?_⟩
  obtain ⟨s, h1, h2⟩ := (g5 l).1 hl
  exact ⟨s, by omega, by omega, h2⟩
theorem FnSystematic : laws_FnSystematic.Pure := by
  intro l0 l1 h0 _ w0 h1 _ w1
  apply Ev.rounds
  unfold laws_FnSystematic.f laws_r8Long.f
  by_cases c0 : (l0.length : Int) > 48
  · simp only [if_pos c0, Option.bind_some, if_true]
    exact Ev.now _
  by_cases c1 : (l1.length : Int) > 48
  · simp only [if_neg c0, decide_eq_true c1, Option.bind_some, if_true]
    exact Ev.now _
  simp only [if_neg c0, decide_eq_false c1, Option.bind_some, Bool.false_eq_true, if_false]
  obtain ⟨D, nums, hv, hD, hn, hx⟩ := r8v_ev l0 (fun x hx => wfByte (w0 x hx))
  obtain ⟨o, ho, hp⟩ := r8o_ev l1 (fun x hx => wfByte (w1 x hx)) nums.length (by omega)
  obtain ⟨W, L, e1, vm, im, hsum, hm⟩ := sys_all D nums o hD hn hx hp
  obtain ⟨W2, L2, e2, vm2, im2, _, _⟩ := sys_all D nums (upI nums.length) hD hn hx (List.Perm.refl _)
  obtain ⟨f1, f2, f3, f4, f5, f6, f7⟩ := vm_facts vm
  have hkl := keys_length L
  have hL64 : L.length ≤ 64 := by omega
  have hsums : ∀ x ∈ KEYS L, x = sofar nums o / D ∨ x = sofar nums o / D + 1 := by
    intro x hx'
    obtain ⟨l, hl, rfl⟩ := List.mem_map.1 (keys_mem.1 hx')
    obtain ⟨t, t0, t1, rfl⟩ := hm l hl
    have hb := start_bnd (D := D) (nums := nums) (o := o) (n := nums.length) (by omega) hp rfl (fun x hx' => by have := hx x hx'; omega) t
    have hlen : (srow D nums o t (List.replicate nums.length 0)).length = nums.length := by rw [srow_length, List.length_replicate]
    rw [wsum_eq 1000000 _ 0 hb (by omega) (by rw [hlen]; omega) (by rw [hlen]; omega), Int.zero_add, start_sum hp t]
    exact floor_two t0 t1
  have hkey : 0 < (KEYS L).length := by
    have hl0 : 0 < L.length := by omega
    have := keys_mem.2 (List.mem_map.2 ⟨L[0], List.getElem_mem hl0, rfl⟩ : wsum 0 L[0] ∈ L.map (wsum 0))
    exact List.length_pos_of_mem this
  have hb := sofar_bnd nums hx o
  have hol : o.length = nums.length := by rw [hp.length_eq, upI_length]
  have f := ediv_range (a := sofar nums o) (b := D) (m := 1000) (by omega) (by omega) (by omega) (by omega)
  refine Ev.bind hv ?_
  refine Ev.bind ho ?_
  refine Ev.bind e1 ?_
  refine Ev.bind (sysmix_ev D nums (by omega) e2) ?_
  refine Ev.bind (sw_val vm) ?_
  simp only [if_true]
  refine Ev.bind ((iVM_ev W L (by omega) (by omega) (vm_rows vm)).to vm) ?_
  simp only [if_true]
  refine Ev.bind im ?_
  simp only [if_true]
  refine Ev.bind im2 ?_
  have ew : wrap64 (((KEYS L).length : Int) - 1) = (((KEYS L).length - 1 : Nat) : Int) := by rw [w64 (by omega) (by omega)]; omega
  have k1 := hsums ((KEYS L).getD ((KEYS L).length - 1) 0) (getD_mem (by omega))
  have k0 := hsums ((KEYS L).getD 0 0) (getD_mem (by omega))
  have ek0 : rd (KEYS L) 0 = (KEYS L).getD 0 0 := rdN _ 0
  simp only [if_true, if_neg (show ¬ ((KEYS L).length : Int) = 0 by omega), ew, if_pos (show 0 ≤ (((KEYS L).length - 1 : Nat) : Int) by omega), if_pos (show (((KEYS L).length - 1 : Nat) : Int) < ((KEYS L).length : Int) by omega), if_pos (show 0 < ((KEYS L).length : Int) by omega), rdN (KEYS L) ((KEYS L).length - 1), ek0, if_neg (show ¬ wrap64 ((KEYS L).getD ((KEYS L).length - 1) 0 - (KEYS L).getD 0 0) > 1 by rw [w64 (by omega) (by omega)]; omega)]
  refine Ev.bind ((r8w_ev W (by omega)).to ((vm_ps vm).1.trans hsum)) ?_
  simp only [bne_self_eq_false]
  apply Ev.succ
  simp only [laws_FnSystematic.j0, Bool.false_eq_true, if_false]
  exact fs_l0 D nums o W L hL64 hp hn hx hD.2 hm L.length 0 (by omega)


end Go.Proofs.Ytlhpejabdmejbaa.Pure
