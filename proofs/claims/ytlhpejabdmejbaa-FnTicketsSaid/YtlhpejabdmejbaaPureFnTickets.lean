/- Proved: the pure half of the law FnTickets: the printed functions answer true, for every input. No condition. -/
import Derived.Test.YtlhpejabdmejbaaPFnTicketsx13
import Derived.Test.YtlhpejabdmejbaaBase
import Derived.Test.YtlhpejabdmejbaaLists
import Derived.Test.YtlhpejabdmejbaaPair
import Derived.Test.YtlhpejabdmejbaaTables
import Derived.Test.YtlhpejabdmejbaaCeil
import Derived.Test.YtlhpejabdmejbaaCut
import Derived.Test.YtlhpejabdmejbaaSource
import Derived.Test.YtlhpejabdmejbaaPsum
namespace Go.Proofs.Ytlhpejabdmejbaa.Pure
open Go.RowKit Go.Proofs.Ytlhpejabdmejbaa.PFnTickets Go.Proofs.YtlhpejabdmejbaaW.PrintWords Go.Proofs.YtlhpejabdmejbaaW.PrintLast Go.Proofs.YtlhpejabdmejbaaW.PrintMore Go.Proofs.Ytlhpejabdmejbaa.Base
set_option linter.unusedVariables false
set_option linter.unusedSimpArgs false

/-! impl.within -/
theorem within_eq (a b c : Int) : impl_within.f a b c = some (decide (b ≤ a ∧ a ≤ c)) := by
  unfold impl_within.f
  by_cases h : b ≤ a
  · rw [if_pos h]; simp [h]
  · rw [if_neg h]; simp [h]

/-! impl.sum -/
theorem isum_l0 (l : List Int) (hl : l.length ≤ 9223372036854775806) : ∀ (d i : Nat) (acc : Int), d + i = l.length → Ev (fun k => impl_sum.l0 k acc l (l.length : Int) i) (wsum acc (l.drop i)) := by
  intro d
  induction d with
  | zero =>
    intro i acc hd
    apply Ev.succ
    simp only [impl_sum.l0, if_neg (show ¬ (i : Int) < (l.length : Int) by omega)]
    rw [List.drop_of_length_le (by omega)]
    exact Ev.now _
  | succ d ih =>
    intro i acc hd
    have hi : i < l.length := by omega
    apply Ev.succ
    simp only [impl_sum.l0, if_pos (show (i : Int) < (l.length : Int) by omega), if_pos (show 0 ≤ (i : Int) by omega), rd_get hi, w64 (show (-9223372036854775808) ≤ (i : Int) + 1 by omega) (by omega)]
    rw [List.drop_eq_getElem_cons hi]
    exact ih (i + 1) _ (by omega)
theorem isum_ev (l : List Int) (hl : l.length ≤ 9223372036854775806) : Ev (fun k => impl_sum.f k l) (wsum 0 l) := by
  have := isum_l0 l hl l.length 0 0 (by omega)
  simpa [impl_sum.f] using this

/-! impl.areWithin -/
theorem aw_l0 (l : List Int) (a b : Int) (hl : l.length ≤ 9223372036854775806) : ∀ (d i : Nat), d + i = l.length → ∃ r : Int, Ev (fun k => slices_IndexFunc_int64_int64_impl_areWithin_1.l0 k l (l.length : Int) i a b) r ∧ (decide (r ≥ 0) = !(l.drop i).all fun n => decide (a ≤ n ∧ n ≤ b)) := by
  intro d
  induction d with
  | zero =>
    intro i hd
    refine ⟨-1, ?_, ?_⟩
    · apply Ev.succ
      simp only [slices_IndexFunc_int64_int64_impl_areWithin_1.l0, if_neg (show ¬ (i : Int) < (l.length : Int) by omega)]
      exact Ev.now _
    · rw [List.drop_of_length_le (by omega)]; rfl
  | succ d ih =>
    intro i hd
    have hi : i < l.length := by omega
    obtain ⟨r, hr, he⟩ := ih (i + 1) (by omega)
    by_cases h : a ≤ l[i] ∧ l[i] ≤ b
    · refine ⟨r, ?_, ?_⟩
      · apply Ev.succ
        simp only [slices_IndexFunc_int64_int64_impl_areWithin_1.l0, if_pos (show (i : Int) < (l.length : Int) by omega), if_pos (show 0 ≤ (i : Int) by omega), rd_get hi, impl_areWithin_1.f, within_eq, decide_eq_true h, Option.bind_some, w64 (show (-9223372036854775808) ≤ (i : Int) + 1 by omega) (by omega)]
        simpa using hr
      · rw [he, List.drop_eq_getElem_cons hi, List.all_cons, decide_eq_true h, Bool.true_and]
    · refine ⟨i, ?_, ?_⟩
      · apply Ev.succ
        simp only [slices_IndexFunc_int64_int64_impl_areWithin_1.l0, if_pos (show (i : Int) < (l.length : Int) by omega), if_pos (show 0 ≤ (i : Int) by omega), rd_get hi, impl_areWithin_1.f, within_eq, decide_eq_false h, Option.bind_some]
        simpa using Ev.now _
      · rw [List.drop_eq_getElem_cons hi, List.all_cons, decide_eq_false h, Bool.false_and]; simp
theorem areWithin_ev (l : List Int) (a b : Int) (hl : l.length ≤ 9223372036854775806) : Ev (fun k => impl_areWithin.f k l a b) (l.all fun n => decide (a ≤ n ∧ n ≤ b)) := by
  obtain ⟨r, hr, he⟩ := aw_l0 l a b hl l.length 0 (by omega)
  unfold impl_areWithin.f
  simp only [slices_ContainsFunc_int64_int64_impl_areWithin_1.f, slices_IndexFunc_int64_int64_impl_areWithin_1.f]
  refine Ev.bind (Ev.bind hr (Ev.now _)) ?_
  refine (Ev.now _).to ?_
  rw [he, List.drop_zero, Bool.not_not]

/-! slices.Equal   int64,int64  -/
theorem sleq_l0 (a b : List Int) (hl : a.length = b.length) (hm : a.length ≤ 9223372036854775806) : ∀ (d i : Nat), d + i = a.length → Ev (fun k => slices_Equal_int64_int64.l0 k a b (a.length : Int) i) (decide (a.drop i = b.drop i)) := by
  intro d
  induction d with
  | zero =>
    intro i hd
    apply Ev.succ
    simp only [slices_Equal_int64_int64.l0, if_neg (show ¬ (i : Int) < (a.length : Int) by omega)]
    rw [List.drop_of_length_le (by omega), List.drop_of_length_le (by omega)]
    exact Ev.now _
  | succ d ih =>
    intro i hd
    have hi : i < a.length := by omega
    have hi' : i < b.length := by omega
    apply Ev.succ
    simp only [slices_Equal_int64_int64.l0, if_pos (show (i : Int) < (a.length : Int) by omega), if_pos (show 0 ≤ (i : Int) by omega), if_pos (show (i : Int) < (b.length : Int) by omega), rd_get hi, rd_get hi', w64 (show (-9223372036854775808) ≤ (i : Int) + 1 by omega) (by omega)]
    rw [List.drop_eq_getElem_cons hi, List.drop_eq_getElem_cons hi']
    by_cases h : a[i] = b[i]
    · simp only [if_pos h]
      exact (ih (i + 1) (by omega)).to (by simp only [List.cons.injEq, h, true_and])
    · simp only [if_neg h]
      exact (Ev.now _).to (by simp only [List.cons.injEq, h, false_and, decide_false])
theorem slEqual_ev (a b : List Int) (hm : a.length ≤ 9223372036854775806) : Ev (fun k => slices_Equal_int64_int64.f k a b) (decide (a = b)) := by
  unfold slices_Equal_int64_int64.f
  by_cases h : a.length = b.length
  · simp only [if_pos (show (a.length : Int) = (b.length : Int) by omega)]
    simpa using sleq_l0 a b h hm a.length 0 (by omega)
  · simp only [if_neg (show ¬ (a.length : Int) = (b.length : Int) by omega)]
    exact (Ev.now _).to (by symm; simp; intro e; exact h (by rw [e]))

/-! spec.l00In -/
theorem in_eq (a b c : Int) : spec_l00In.f a b c = some (decide (b ≤ a ∧ a ≤ c)) := by
  unfold spec_l00In.f
  by_cases h : b ≤ a
  · rw [if_pos (show a ≥ b from h)]; simp [h]
  · rw [if_neg (show ¬ a ≥ b from h)]; simp [h]

/-! spec.l00Same -/
theorem same_l0 (a b : List Int) (hl : a.length = b.length) (hm : a.length ≤ 9223372036854775806) : ∀ (d i : Nat), d + i = a.length → Ev (fun k => spec_l00Same.l0 k a b i) (decide (a.drop i = b.drop i)) := by
  intro d
  induction d with
  | zero =>
    intro i hd
    apply Ev.succ
    simp only [spec_l00Same.l0, if_neg (show ¬ (i : Int) < (a.length : Int) by omega)]
    rw [List.drop_of_length_le (by omega), List.drop_of_length_le (by omega)]
    exact Ev.now _
  | succ d ih =>
    intro i hd
    have hi : i < a.length := by omega
    have hi' : i < b.length := by omega
    apply Ev.succ
    simp only [spec_l00Same.l0, if_pos (show (i : Int) < (a.length : Int) by omega), if_pos (show 0 ≤ (i : Int) by omega), if_pos (show (i : Int) < (b.length : Int) by omega), rd_get hi, rd_get hi', w64 (show (-9223372036854775808) ≤ (i : Int) + 1 by omega) (by omega)]
    rw [List.drop_eq_getElem_cons hi, List.drop_eq_getElem_cons hi']
    by_cases h : a[i] = b[i]
    · simp only [if_pos h]
      exact (ih (i + 1) (by omega)).to (by simp only [List.cons.injEq, h, true_and])
    · simp only [if_neg h]
      exact (Ev.now _).to (by simp only [List.cons.injEq, h, false_and, decide_false])
theorem same_ev (a b : List Int) (hm : a.length ≤ 9223372036854775806) : Ev (fun k => spec_l00Same.f k a b) (decide (a = b)) := by
  unfold spec_l00Same.f
  by_cases h : a.length = b.length
  · simp only [if_pos (show (a.length : Int) = (b.length : Int) by omega)]
    simpa using same_l0 a b h hm a.length 0 (by omega)
  · simp only [if_neg (show ¬ (a.length : Int) = (b.length : Int) by omega)]
    exact (Ev.now _).to (by symm; simp; intro e; exact h (by rw [e]))

/-! spec.l06Is -/
/-- A valid mixture. -/
theorem rdl_get6 {xs : List (List Int)} {i : Nat} (h : i < xs.length) : rd_L1 xs (i : Int) = xs.getD i [] := by
  unfold rd_L1; simp
theorem rdl_head6 (xs : List (List Int)) : rd_L1 xs 0 = xs.headD [] := by
  unfold rd_L1; cases xs <;> rfl
theorem rd_getD {xs : List Int} {i : Nat} : rd xs (i : Int) = xs.getD i 0 := by
  unfold rd; simp
theorem vm_l2 (ws : List Int) (ls : List (List Int)) (t : Int) (i : Nat) (hi : i < ls.length) (hl : ls.length ≤ 64) (hr : ∀ r ∈ ls, r.length ≤ 1048576) {s : Bool} (hs : Ev (fun k => spec_l06Is.l0 k t (wrap64 ((i : Int) + 1)) ws ls) s) : Ev (fun k => spec_l06Is.l2 k t i 0 ws ls) (((List.range i).all fun j => !decide (ls.getD j [] = ls.getD i [])) && s) := by
  refine all_step i (fun j => !decide (ls.getD j [] = ls.getD i [])) (fun k j => spec_l06Is.l2 k t i j ws ls) ?_ ?_
  · apply Ev.succ
    simp only [spec_l06Is.l2, if_neg (show ¬ (i : Int) < i by omega)]
    exact hs
  · intro j hj q hq
    have hj' : j < ls.length := by omega
    apply Ev.succ
    simp only [spec_l06Is.l2, if_pos (show (j : Int) < i by omega), if_pos (show 0 ≤ (j : Int) by omega), if_pos (show (j : Int) < ls.length by omega), if_pos (show 0 ≤ (i : Int) by omega), if_pos (show (i : Int) < ls.length by omega), rdl_get6 hj', rdl_get6 hi]
    refine Ev.bind (same_ev (ls.getD j []) (ls.getD i []) ?_) ?_
    · have := hr (ls.getD j []) (by simp [List.getD_eq_getElem?_getD, hj'])
      omega
    · by_cases e : ls.getD j [] = ls.getD i []
      · simp only [decide_eq_true e, if_true, Bool.not_true, Bool.false_and]
        exact Ev.now _
      · simp only [decide_eq_false e, Bool.false_eq_true, if_false, Bool.not_false, Bool.true_and, inc hj (by omega)]
        exact hq
theorem vm_l1 (ws : List Int) (ls : List (List Int)) (t : Int) (i : Nat) (hi : i < ls.length) (hl : ls.length ≤ 64) (hr : ∀ r ∈ ls, r.length ≤ 1048576) {s : Bool} (hs : Ev (fun k => spec_l06Is.l2 k t i 0 ws ls) s) : Ev (fun k => spec_l06Is.l1 k t i 0 ws ls) (((ls.getD i []).all fun x => decide (-1000000 ≤ x ∧ x ≤ 1000000)) && s) := by
  have hm := hr (ls.getD i []) (by simp [List.getD_eq_getElem?_getD, hi])
  rw [← all_range (ls.getD i []) _ 0]
  refine all_step (ls.getD i []).length (fun j => decide (-1000000 ≤ (ls.getD i []).getD j 0 ∧ (ls.getD i []).getD j 0 ≤ 1000000)) (fun k j => spec_l06Is.l1 k t i j ws ls) ?_ ?_
  · apply Ev.succ
    simp only [spec_l06Is.l1, if_pos (show 0 ≤ (i : Int) by omega), if_pos (show (i : Int) < ls.length by omega), rdl_get6 hi, if_neg (show ¬ ((ls.getD i []).length : Int) < (ls.getD i []).length by omega)]
    exact hs
  · intro j hj q hq
    apply Ev.succ
    simp only [spec_l06Is.l1, if_pos (show 0 ≤ (i : Int) by omega), if_pos (show (i : Int) < ls.length by omega), rdl_get6 hi, if_pos (show (j : Int) < (ls.getD i []).length by omega), if_pos (show 0 ≤ (j : Int) by omega), rd_getD, in_eq, Option.bind_some]
    by_cases e : -1000000 ≤ (ls.getD i []).getD j 0 ∧ (ls.getD i []).getD j 0 ≤ 1000000
    · simp only [decide_eq_true e, if_true, Bool.true_and, inc hj (by omega)]
      exact hq
    · simp only [decide_eq_false e, Bool.false_eq_true, if_false, Bool.false_and]
      exact Ev.now _
theorem take_wsum (ws : List Int) (i : Nat) (h : i < ws.length) : wrap64 (wsum 0 (ws.take i) + ws.getD i 0) = wsum 0 (ws.take (i + 1)) := by
  have e : ws.getD i 0 = ws[i] := by simp [List.getD_eq_getElem?_getD, h]
  rw [List.take_succ_eq_append_getElem h, e]
  unfold wsum
  rw [List.foldl_append]
  rfl
theorem vm_l0 (ws : List Int) (ls : List (List Int)) (hl : ls.length ≤ 64) (hw : ws.length = ls.length) (hr : ∀ r ∈ ls, r.length ≤ 1048576) : Ev (fun k => spec_l06Is.l0 k 0 0 ws ls) ((List.range ls.length).all (fun i => decide (1 ≤ ws.getD i 0 ∧ ws.getD i 0 ≤ 1000000) && mxRow ls i) && decide (wsum 0 ws ≤ 1000000)) := by
  have := all_step ls.length (fun i => decide (1 ≤ ws.getD i 0 ∧ ws.getD i 0 ≤ 1000000) && mxRow ls i) (fun k i => spec_l06Is.l0 k (wsum 0 (ws.take i)) i ws ls) (r := decide (wsum 0 ws ≤ 1000000)) ?_ ?_
  · exact this
  · apply Ev.succ
    simp only [spec_l06Is.l0, if_neg (show ¬ (ls.length : Int) < ls.length by omega)]
    rw [List.take_of_length_le (by omega)]
    exact Ev.now _
  · intro i hi s hs
    have hi' : i < ws.length := by omega
    apply Ev.succ
    simp only [spec_l06Is.l0, if_pos (show (i : Int) < ls.length by omega), if_pos (show 0 ≤ (i : Int) by omega), if_pos (show (i : Int) < ws.length by omega), rd_getD, in_eq, Option.bind_some, if_pos (show 0 < (ls.length : Int) by omega), rdl_get6 hi, rdl_head6]
    by_cases e : 1 ≤ ws.getD i 0 ∧ ws.getD i 0 ≤ 1000000
    · simp only [decide_eq_true e, if_true, Bool.true_and]
      apply Ev.succ
      by_cases e2 : (ls.getD i []).length = (ls.headD []).length
      · have hne : (((ls.getD i []).length : Int) != ((ls.headD []).length : Int)) = false := by simp only [bne_eq_false_iff_eq]; omega
        simp only [spec_l06Is.j2, hne, Bool.false_eq_true, if_false, if_pos (show 0 ≤ (i : Int) by omega), if_pos (show (i : Int) < ws.length by omega), rd_getD, take_wsum ws i hi']
        refine (vm_l1 ws ls _ i hi hl hr (vm_l2 ws ls _ i hi hl hr (s := s) ?_)).to ?_
        · rw [inc hi (by omega)]
          exact hs
        · simp only [mxRow, decide_eq_true e2, Bool.true_and, Bool.and_assoc]
      · have hne : (((ls.getD i []).length : Int) != ((ls.headD []).length : Int)) = true := by simp only [bne_iff_ne, ne_eq]; omega
        simp only [spec_l06Is.j2, hne, if_true]
        exact (Ev.now _).to (by simp only [mxRow, decide_eq_false e2, Bool.false_and])
    · simp only [decide_eq_false e, Bool.false_eq_true, if_false, Bool.false_and]
      apply Ev.succ
      simp only [spec_l06Is.j2, if_true]
      exact Ev.now _
theorem all_and {n : Nat} (p q : Nat → Bool) : (List.range n).all (fun i => p i && q i) = ((List.range n).all p && (List.range n).all q) := by
  induction n with
  | zero => rfl
  | succ n ih =>
    rw [List.range_succ, List.all_append, List.all_append, List.all_append, ih]
    simp only [List.all_cons, List.all_nil, Bool.and_true]
    cases p n <;> cases q n <;> simp
theorem l06Is_ev (ws : List Int) (ls : List (List Int)) (hw : ws.length ≤ 1048576) (hl : ls.length ≤ 1048576) (hr : ∀ r ∈ ls, r.length ≤ 1048576) : Ev (fun k => spec_l06Is.f k ws ls) (VM ws ls) := by
  unfold spec_l06Is.f VM
  simp only [in_eq, Option.bind_some, rdl_head6]
  by_cases h1 : 1 ≤ (ls.length : Int) ∧ (ls.length : Int) ≤ 64
  · by_cases h2 : ws.length = ls.length
    · simp only [decide_eq_true h1, decide_eq_true h2, if_true, if_pos (show (ws.length : Int) = ls.length by omega), if_pos (show 0 < (ls.length : Int) by omega), Bool.true_and]
      apply Ev.succ
      by_cases h3 : (ls.headD []).length ≤ 40
      · simp only [spec_l06Is.j0, decide_eq_false (show ¬ ((ls.headD []).length : Int) > 40 by omega), decide_eq_true h3, Bool.false_eq_true, if_false, Bool.true_and]
        refine (vm_l0 ws ls (by omega) h2 hr).to ?_
        rw [all_and, Bool.and_assoc, mxW, ← all_range ws _ 0, h2]
      · simp only [spec_l06Is.j0, decide_eq_true (show ((ls.headD []).length : Int) > 40 by omega), decide_eq_false h3, if_true, Bool.false_and]
        exact Ev.now _
    · simp only [decide_eq_true h1, decide_eq_false h2, if_true, if_neg (show ¬ (ws.length : Int) = ls.length by omega), Bool.false_and, Bool.and_false]
      apply Ev.succ
      simp only [spec_l06Is.j0, if_true]
      exact Ev.now _
  · simp only [decide_eq_false h1, Bool.false_eq_true, if_false, Bool.false_and]
    apply Ev.succ
    simp only [spec_l06Is.j0, if_true]
    exact Ev.now _
theorem vm_facts {ws : List Int} {ls : List (List Int)} (h : VM ws ls = true) : 1 ≤ ls.length ∧ ls.length ≤ 64 ∧ ws.length = ls.length ∧ (ls.headD []).length ≤ 40 ∧ (∀ w ∈ ws, 1 ≤ w ∧ w ≤ 1000000) ∧ (∀ i, i < ls.length → (ls.getD i []).length = (ls.headD []).length ∧ ∀ x ∈ ls.getD i [], -1000000 ≤ x ∧ x ≤ 1000000) ∧ wsum 0 ws ≤ 1000000 := by
  simp only [VM, mxW, mxRow, Bool.and_eq_true, decide_eq_true_eq, List.all_eq_true, List.mem_range] at h
  obtain ⟨h1, h2, h3, h4, h5, h6⟩ := h
  exact ⟨by omega, by omega, h2, h3, h4, fun i hi => ⟨(h5 i hi).1, (h5 i hi).2.1⟩, h6⟩

/-! impl.ValidMixture -/
theorem rdl_get7 {xs : List (List Int)} {i : Nat} (h : i < xs.length) : rd_L1 xs (i : Int) = xs.getD i [] := by
  unfold rd_L1; simp
theorem rdl_head7 (xs : List (List Int)) : rd_L1 xs 0 = xs.headD [] := by
  unfold rd_L1; cases xs <;> rfl
theorem rdl_get8 {xs : List (List Int)} {i : Nat} (h : i < xs.length) : rd_L1 xs (i : Int) = xs[i] := by
  unfold rd_L1; exact getD_get h
def imRow (ls : List (List Int)) (i : Nat) : Bool := !((ls.take i).any fun r => decide (r = ls.getD i [])) && (decide ((ls.getD i []).length = (ls.headD []).length) && (decide ((ls.getD i []).length ≤ 40) && (ls.getD i []).all fun x => decide (-1000000 ≤ x ∧ x ≤ 1000000)))
theorem vm1_ev (r : List Int) (x : List Int) (hr : r.length ≤ 1048576) : Ev (fun k => impl_ValidMixture_1.f k r x) (decide (r = x)) := by
  unfold impl_ValidMixture_1.f
  exact Ev.bind (slEqual_ev r x (by omega)) (Ev.now _)
theorem vmC_ev (l : List (List Int)) (x : List Int) (hl : l.length ≤ 1048576) (hr : ∀ r ∈ l, r.length ≤ 1048576) : Ev (fun k => slices_ContainsFunc_int64_int64_impl_ValidMixture_1.f k l x) (l.any fun r => decide (r = x)) := by
  obtain ⟨r, hr1, hr2⟩ := find_loop l (fun r => decide (r = x)) (fun k j => slices_IndexFunc_int64_int64_impl_ValidMixture_1.l0 k l (l.length : Int) j x)
    (by
      apply Ev.succ
      simp only [slices_IndexFunc_int64_int64_impl_ValidMixture_1.l0, if_neg (show ¬ (l.length : Int) < l.length by omega)]
      exact Ev.now _)
    (fun i hi hp => by
      apply Ev.succ
      simp only [slices_IndexFunc_int64_int64_impl_ValidMixture_1.l0, if_pos (show (i : Int) < (l.length : Int) by omega), if_pos (show 0 ≤ (i : Int) by omega), rdl_get8 hi]
      refine Ev.bind (vm1_ev l[i] x (hr _ (List.getElem_mem hi))) ?_
      simp only [hp, if_true]
      exact Ev.now _)
    (fun i hi hp r hr' => by
      apply Ev.succ
      simp only [slices_IndexFunc_int64_int64_impl_ValidMixture_1.l0, if_pos (show (i : Int) < (l.length : Int) by omega), if_pos (show 0 ≤ (i : Int) by omega), rdl_get8 hi]
      refine Ev.bind (vm1_ev l[i] x (hr _ (List.getElem_mem hi))) ?_
      simp only [hp, Bool.false_eq_true, if_false, inc hi (by omega)]
      exact hr')
  simp only [slices_ContainsFunc_int64_int64_impl_ValidMixture_1.f, slices_IndexFunc_int64_int64_impl_ValidMixture_1.f]
  refine Ev.bind hr1 ?_
  refine (Ev.now _).to ?_
  rw [hr2]
theorem im_l0 (ws : List Int) (ls : List (List Int)) (hl : ls.length ≤ 64) (hr : ∀ r ∈ ls, r.length ≤ 1048576) : Ev (fun k => impl_ValidMixture.l0 k ls (ls.length : Int) 0 ws ls) ((List.range ls.length).all (imRow ls)) := by
  have := all_step ls.length (imRow ls) (fun k i => impl_ValidMixture.l0 k ls (ls.length : Int) i ws ls) (r := true) ?_ ?_
  · rw [Bool.and_true] at this
    exact this
  · apply Ev.succ
    simp only [impl_ValidMixture.l0, if_neg (show ¬ (ls.length : Int) < ls.length by omega)]
    exact Ev.now _
  · intro i hi s hs
    have hm := hr (ls.getD i []) (by simp [List.getD_eq_getElem?_getD, hi])
    apply Ev.succ
    simp only [impl_ValidMixture.l0, if_pos (show (i : Int) < ls.length by omega), if_pos (show 0 ≤ (i : Int) by omega), if_pos (show (i : Int) ≤ ls.length by omega), rdl_get7 hi, rdl_head7, Int.toNat_natCast]
    refine Ev.bind (vmC_ev (ls.take i) (ls.getD i []) (by simp; omega) (fun r h => hr r (List.mem_of_mem_take h))) ?_
    unfold imRow
    cases (ls.take i).any fun r => decide (r = ls.getD i []) with
    | true =>
      simp only [if_true, Bool.not_true, Bool.false_and]
      exact Ev.now _
    | false =>
      simp only [Bool.false_eq_true, if_false, Bool.not_false, Bool.true_and, if_pos (show 0 < (ls.length : Int) by omega)]
      by_cases e2 : (ls.getD i []).length = (ls.headD []).length
      · simp only [if_pos (show ((ls.getD i []).length : Int) = (ls.headD []).length by omega), decide_eq_true e2, Bool.true_and]
        by_cases e3 : (ls.getD i []).length ≤ 40
        · simp only [if_neg (show ¬ ((ls.getD i []).length : Int) > 40 by omega), decide_eq_true e3, Bool.true_and]
          refine Ev.bind (areWithin_ev (ls.getD i []) (-1000000) 1000000 (by omega)) ?_
          cases (ls.getD i []).all fun n => decide (-1000000 ≤ n ∧ n ≤ 1000000) with
          | true =>
            simp only [if_true, Bool.true_and, inc hi (by omega)]
            exact hs
          | false =>
            simp only [Bool.false_eq_true, if_false, Bool.false_and]
            exact Ev.now _
        · simp only [if_pos (show ((ls.getD i []).length : Int) > 40 by omega), decide_eq_false e3, Bool.false_and]
          exact Ev.now _
      · simp only [if_neg (show ¬ ((ls.getD i []).length : Int) = (ls.headD []).length by omega), decide_eq_false e2, Bool.false_and]
        exact Ev.now _
theorem im_rows (ls : List (List Int)) (h : 1 ≤ ls.length) : (List.range ls.length).all (imRow ls) = (decide ((ls.headD []).length ≤ 40) && (List.range ls.length).all (mxRow ls)) := by
  have hd : ls.getD 0 [] = ls.headD [] := by cases ls <;> rfl
  have tk : ∀ i, i < ls.length → ((ls.take i).any fun r => decide (r = ls.getD i [])) = !((List.range i).all fun j => !decide (ls.getD j [] = ls.getD i [])) := by
    intro i hi
    have := all_range (ls.take i) (fun r => !decide (r = ls.getD i [])) []
    rw [List.length_take, Nat.min_eq_left (by omega)] at this
    rw [show ((List.range i).all fun j => !decide (ls.getD j [] = ls.getD i [])) = (ls.take i).all (fun r => !decide (r = ls.getD i [])) from ?_]
    · generalize ls.getD i [] = x
      induction (ls.take i) with
      | nil => rfl
      | cons y l ih => rw [List.any_cons, List.all_cons, ih, Bool.not_and, Bool.not_not]
    · rw [← this]
      rw [Bool.eq_iff_iff, List.all_eq_true, List.all_eq_true]
      refine forall_congr' fun j => forall_congr' fun hj => ?_
      have hj' : j < i := by simpa using hj
      have : (ls.take i).getD j [] = ls.getD j [] := by simp [List.getD_eq_getElem?_getD, List.getElem?_take, hj']
      rw [this]
  rw [Bool.eq_iff_iff, Bool.and_eq_true, List.all_eq_true, List.all_eq_true, decide_eq_true_iff]
  constructor
  · intro a
    refine ⟨?_, fun i hi => ?_⟩
    · have := a 0 (List.mem_range.2 (by omega))
      simp only [imRow, Bool.and_eq_true, decide_eq_true_eq, hd] at this
      exact this.2.2.1
    · have hi' : i < ls.length := by simpa using hi
      have := a i hi
      simp only [imRow, tk i hi', Bool.not_not, Bool.and_eq_true, decide_eq_true_eq] at this
      simp only [mxRow, Bool.and_eq_true, decide_eq_true_eq]
      exact ⟨this.2.1, this.2.2.2, this.1⟩
  · rintro ⟨a, b⟩ i hi
    have hi' : i < ls.length := by simpa using hi
    have := b i hi
    simp only [mxRow, Bool.and_eq_true, decide_eq_true_eq] at this
    simp only [imRow, tk i hi', Bool.not_not, Bool.and_eq_true, decide_eq_true_eq]
    exact ⟨this.2.2, this.1, by omega, this.2.1⟩
theorem iVM_ev (ws : List Int) (ls : List (List Int)) (hw : ws.length ≤ 1048576) (hl : ls.length ≤ 1048576) (hr : ∀ r ∈ ls, r.length ≤ 1048576) : Ev (fun k => impl_ValidMixture.f k ws ls) (VM ws ls) := by
  unfold impl_ValidMixture.f VM
  simp only [within_eq, impl_size_int64_105.f, Option.bind_some]
  by_cases h1 : 1 ≤ (ls.length : Int) ∧ (ls.length : Int) ≤ 64
  · by_cases h2 : ws.length = ls.length
    · simp only [decide_eq_true h1, decide_eq_true h2, if_true, if_pos (show (ws.length : Int) = ls.length by omega), Bool.true_and]
      refine Ev.bind (areWithin_ev ws 1 1000000 (by omega)) ?_
      have e : mxW ws = ws.all fun n => decide (1 ≤ n ∧ n ≤ 1000000) := rfl
      rw [← e]
      cases mxW ws with
      | true =>
        simp only [if_true, Bool.true_and]
        refine Ev.bind (isum_ev ws (by omega)) ?_
        apply Ev.succ
        by_cases h4 : wsum 0 ws ≤ 1000000
        · simp only [impl_ValidMixture.j0, decide_eq_false (show ¬ wsum 0 ws > 1000000 by omega), Bool.false_eq_true, if_false, decide_eq_true h4, Bool.and_true]
          exact (im_l0 ws ls (by omega) hr).to (im_rows ls (by omega))
        · simp only [impl_ValidMixture.j0, decide_eq_true (show wsum 0 ws > 1000000 by omega), if_true, decide_eq_false h4, Bool.and_false]
          exact Ev.now _
      | false =>
        simp only [Bool.false_eq_true, if_false, Bool.false_and, Bool.and_false]
        apply Ev.succ
        simp only [impl_ValidMixture.j0, if_true]
        exact Ev.now _
    · simp only [decide_eq_true h1, decide_eq_false h2, if_true, if_neg (show ¬ (ws.length : Int) = ls.length by omega), Bool.false_and, Bool.and_false]
      apply Ev.succ
      simp only [impl_ValidMixture.j0, if_true]
      exact Ev.now _
  · simp only [decide_eq_false h1, Bool.false_eq_true, if_false, Bool.false_and]
    apply Ev.succ
    simp only [impl_ValidMixture.j0, if_true]
    exact Ev.now _

/-! impl.isSet -/
theorem isSet1_ev (a n : Int) (h0 : 0 ≤ n) (h1 : n ≤ 1048576) : Ev (fun k => impl_isSet.f k [a] n) (decide (0 ≤ a ∧ a ≤ n - 1)) := by
  unfold impl_isSet.f
  apply Ev.succ
  have hr : rd [a] 0 = a := rfl
  simp only [impl_isSet.l0, List.length_singleton, if_pos (show (0 : Int) < ((1 : Nat) : Int) by omega), if_pos (show (0 : Int) ≤ 0 by omega), hr, within_eq, Option.bind_some, w64 (show (-9223372036854775808) ≤ n - 1 by omega) (by omega), if_neg (show ¬ (0 : Int) > 0 by omega)]
  by_cases h : 0 ≤ a ∧ a ≤ n - 1
  · simp only [decide_eq_true h, if_true, w64 (show (-9223372036854775808) ≤ (0 : Int) + 1 by omega) (by omega)]
    apply Ev.succ
    simp only [impl_isSet.l0, List.length_singleton, if_neg (show ¬ (0 + 1 : Int) < ((1 : Nat) : Int) by omega)]
    exact Ev.now _
  · simp only [decide_eq_false h, Bool.false_eq_true, if_false]
    exact Ev.now _
theorem isSet_ev (l : List Int) (n : Int) (hl : l.length ≤ 1048576) (h0 : 0 ≤ n) (h1 : n ≤ 1048576) : Ev (fun k => impl_isSet.f k l n) (RSET l (n - 1)) := by
  have := all_step l.length (fun i => decide (0 ≤ l.getD i 0 ∧ l.getD i 0 ≤ n - 1) && decide (i = 0 ∨ l.getD (i - 1) 0 < l.getD i 0)) (fun k i => impl_isSet.l0 k l n l (l.length : Int) (i : Int)) (r := true) (by
    apply Ev.succ
    simp only [impl_isSet.l0, if_neg (show ¬ (l.length : Int) < (l.length : Int) by omega)]
    exact Ev.now _) (by
    intro i hi' s hs
    apply Ev.succ
    simp only [impl_isSet.l0, if_pos (show (i : Int) < (l.length : Int) by omega), if_pos (show 0 ≤ (i : Int) by omega), rdNc, within_eq, Option.bind_some, inc hi' (by omega), w64 (show (-9223372036854775808) ≤ n - 1 by omega) (by omega)]
    by_cases c : 0 ≤ l.getD i 0 ∧ l.getD i 0 ≤ n - 1
    · simp only [decide_eq_true c, if_true, Bool.true_and]
      by_cases c0 : i = 0
      · subst c0
        simp only [if_neg (show ¬ ((0 : Nat) : Int) > 0 by omega)]
        exact hs.to (by simp)
      · have e : wrap64 ((i : Int) - 1) = ((i - 1 : Nat) : Int) := by rw [w64 (by omega) (by omega)]; omega
        simp only [if_pos (show (i : Int) > 0 by omega), e, if_pos (show 0 ≤ ((i - 1 : Nat) : Int) by omega), if_pos (show ((i - 1 : Nat) : Int) < (l.length : Int) by omega), rdNc]
        by_cases c1 : l.getD i 0 ≤ l.getD (i - 1) 0
        · simp only [if_pos c1]
          refine (Ev.now _).to ?_
          rw [decide_eq_false (show ¬ (i = 0 ∨ l.getD (i - 1) 0 < l.getD i 0) by omega)]; rfl
        · simp only [if_neg c1]
          refine hs.to ?_
          rw [decide_eq_true (show (i = 0 ∨ l.getD (i - 1) 0 < l.getD i 0) by omega)]; rfl
    · simp only [decide_eq_false c, Bool.false_eq_true, if_false, Bool.false_and]
      exact Ev.now _)
  unfold impl_isSet.f RSET
  rw [Bool.and_true] at this
  exact this

/-! impl.bit -/
theorem bit_eq (b : Bool) : impl_bit.f b = some (if b then 1 else 0) := by
  unfold impl_bit.f; cases b <;> rfl

/-! impl.PairWeight -/
theorem rdl_get10 {xs : List (List Int)} {i : Nat} (h : i < xs.length) : rd_L1 xs (i : Int) = xs.getD i [] := by
  unfold rd_L1; simp
theorem rdl_head10 (xs : List (List Int)) : rd_L1 xs 0 = xs.headD [] := by
  unfold rd_L1; cases xs <;> rfl
theorem ipw_l0 (ws : List Int) (ls : List (List Int)) (i a j b : Int) (hl : ls.length ≤ 64) (hw : ws.length = ls.length) (hw2 : ∀ w ∈ ws, 1 ≤ w ∧ w ≤ 1000000) (hi : 0 ≤ i) (hj : 0 ≤ j) (hr : ∀ m, m < ls.length → i < (ls.getD m []).length ∧ j < (ls.getD m []).length) : ∀ (d m : Nat) (acc : Int), d + m = ls.length → 0 ≤ acc → acc ≤ m * 1000000 → Ev (fun k => impl_PairWeight.l0 k i a j b acc ls (ls.length : Int) m ws ls) (PW ws ls i a j b d m acc, true) := by
  intro d
  induction d with
  | zero =>
    intro m acc hd _ _
    apply Ev.succ
    simp only [impl_PairWeight.l0, if_neg (show ¬ (m : Int) < ls.length by omega)]
    exact Ev.now _
  | succ d ih =>
    intro m acc hd h0 h9
    have hm : m < ls.length := by omega
    have h1 := (hr m hm).1
    have h2 := (hr m hm).2
    have hq : 1 ≤ ws.getD m 0 ∧ ws.getD m 0 ≤ 1000000 := hw2 _ (by simp [List.getD_eq_getElem?_getD, show m < ws.length by omega])
    apply Ev.succ
    simp only [impl_PairWeight.l0, if_pos (show (m : Int) < ls.length by omega), if_pos (show 0 ≤ (m : Int) by omega), rdl_get10 hm, if_pos hi, if_pos hj, if_pos h1, if_pos h2, if_pos (show (m : Int) < ws.length by omega), inc hm (by omega), rd_getD9, bit_eq, Option.bind_some]
    unfold PW
    have st : pwStep ws ls i a j b acc m = if rd (ls.getD m []) i = a ∧ rd (ls.getD m []) j = b then acc + ws.getD m 0 else acc := by
      unfold pwStep; rw [w64 (by omega) (by omega)]
    have := ih (m + 1) (pwStep ws ls i a j b acc m) (by omega) (by rw [st]; split <;> omega) (by rw [st]; split <;> omega)
    rw [st] at this ⊢
    by_cases e1 : rd (ls.getD m []) i = a
    · by_cases e2 : rd (ls.getD m []) j = b
      · simp only [e1, e2, and_self, if_true, beq_self_eq_true, Int.mul_one] at this ⊢
        rw [w64 (show (-9223372036854775808) ≤ ws.getD m 0 by omega) (by omega), w64 (show (-9223372036854775808) ≤ acc + ws.getD m 0 by omega) (by omega)]
        exact this
      · have e3 : (rd (ls.getD m []) j == b) = false := by simpa using e2
        simp only [e1, e2, e3, and_false, if_true, if_false, Bool.false_eq_true, Int.mul_zero] at this ⊢
        rw [w64 (show (-9223372036854775808) ≤ (0 : Int) by omega) (by omega), Int.add_zero, w64 (show (-9223372036854775808) ≤ acc by omega) (by omega)]
        exact this
    · simp only [e1, false_and, if_false, Bool.false_eq_true, Int.mul_zero] at this ⊢
      rw [w64 (show (-9223372036854775808) ≤ (0 : Int) by omega) (by omega), Int.add_zero, w64 (show (-9223372036854775808) ≤ acc by omega) (by omega)]
      exact this
theorem iPW_ev (ws : List Int) (l : List (List Int)) (i a j b : Int) (hw : ws.length ≤ 1048576) (hl : l.length ≤ 1048576) (hr : ∀ r ∈ l, r.length ≤ 1048576) : Ev (fun k => impl_PairWeight.f k ws l i a j b) (SPW ws l i a j b) := by
  unfold impl_PairWeight.f SPW
  refine Ev.bind (iVM_ev ws l hw hl hr) ?_
  cases h : VM ws l with
  | false =>
    simp only [Bool.false_eq_true, if_false, Bool.false_and]
    apply Ev.succ
    simp only [impl_PairWeight.j0, if_true]
    exact Ev.now _
  | true =>
    obtain ⟨f1, f2, f3, f4, f5, f6, f7⟩ := vm_facts h
    simp only [if_true, if_pos (show 0 < (l.length : Int) by omega), rdl_head10, impl_size_int64_65.f, Option.bind_some, Bool.true_and]
    refine Ev.bind (isSet1_ev i _ (by omega) (by omega)) ?_
    by_cases h1 : 0 ≤ i ∧ i ≤ ((l.headD []).length : Int) - 1
    · simp only [decide_eq_true h1, if_true, Bool.true_and]
      refine Ev.bind (isSet1_ev j _ (by omega) (by omega)) ?_
      by_cases h2 : 0 ≤ j ∧ j ≤ ((l.headD []).length : Int) - 1
      · simp only [decide_eq_true h2, if_true, Bool.not_true]
        apply Ev.succ
        simp only [impl_PairWeight.j0, Bool.false_eq_true, if_false]
        exact ipw_l0 ws l i a j b f2 f3 f5 h1.1 h2.1 (fun m hm => by have := (f6 m hm).1; omega) l.length 0 0 (by omega) (by omega) (by omega)
      · simp only [decide_eq_false h2, Bool.not_false, Bool.false_eq_true, if_false]
        apply Ev.succ
        simp only [impl_PairWeight.j0, if_true]
        exact Ev.now _
    · simp only [decide_eq_false h1, Bool.false_and, Bool.false_eq_true, if_false]
      apply Ev.succ
      simp only [impl_PairWeight.j0, if_true]
      exact Ev.now _

/-! slices.Clone   int64,int64  -/
theorem clone_eq (l : List Int) (h : l.length ≤ 1048576) : slices_Clone_int64_int64.f l = some l := by
  unfold slices_Clone_int64_int64.f
  simp only [Option.bind_some, List.length_nil, List.nil_append]
  rw [if_pos (by omega)]

/-! spec.l00Own -/
theorem own_eq (l : List Int) (h : l.length ≤ 1048576) : spec_l00Own.f l = some l := by
  unfold spec_l00Own.f
  simp only [Option.bind_some, List.length_nil, List.nil_append]
  rw [if_pos (by omega)]

/-! spec.l01Floor -/
theorem tdiv_mul_range {a b m : Int} (hb : 0 < b) (h1 : -m ≤ a) (h2 : a ≤ m) : -m ≤ a.tdiv b * b ∧ a.tdiv b * b ≤ m := by
  have h := ediv_bounds (a := a) hb
  rcases tdiv_cases (a := a) hb with ⟨e, _, h3⟩ | ⟨e, _, h3, h4⟩
  · rw [e]
    rcases h3 with h3 | h3
    · have : 0 ≤ a / b * b := Int.mul_nonneg (Int.ediv_nonneg h3 (by omega)) (by omega)
      omega
    · have := Int.emod_add_mul_ediv a b
      have h5 : b * (a / b) = (a / b) * b := Int.mul_comm _ _
      omega
  · have h5 : (a / b + 1) * b = a / b * b + b := by rw [Int.add_mul, Int.one_mul]
    have h6 : a / b < 0 := Int.ediv_neg_of_neg_of_pos h3 hb
    have h7 : (a / b + 1) * b ≤ 0 * b := Int.mul_le_mul_of_nonneg_right (by omega) (by omega)
    rw [e]
    omega
theorem sfloor_eq {a b : Int} (hb : 0 < b) (h1 : -9223372036854775807 ≤ a) (h2 : a ≤ 9223372036854775807) : spec_l01Floor.f a b = some (a / b) := by
  have r1 := tdiv_range hb h1 h2 (by omega)
  have r2 := tdiv_mul_range hb h1 h2
  have hf := floorA (a := a) hb
  have e1 : wrap64 (a.tdiv b) = a.tdiv b := w64 (by omega) (by omega)
  have e2 : wrap64 (a.tdiv b * b) = a.tdiv b * b := w64 (by omega) (by omega)
  unfold spec_l01Floor.f
  rw [if_neg (by omega), e1, e2]
  by_cases h : a.tdiv b * b > a
  · rw [if_pos h] at hf
    rw [if_pos h, w64 (by omega) (by omega), hf]
  · rw [if_neg h] at hf
    rw [if_neg h, hf]

/-! spec.l06Start -/
theorem sta_l0 (o : List Int) (den : Int) (nums : List Int) (n : Nat) (hn : n ≤ 40) (hd : 1 ≤ den ∧ den ≤ 12) (hnl : nums.length = n) (ho : o.length = n) (hx : ∀ x ∈ o, 0 ≤ x ∧ x < n) (hv : ∀ x ∈ nums, -20 ≤ x ∧ x ≤ 39) : ∀ (e i : Nat) (out : List Int) (sum : Int), e + i = n → out.length = n → (∀ x ∈ out, -1000000 ≤ x ∧ x ≤ 1000000) → -(20 * i) ≤ sum → sum ≤ 12 + 39 * i → ∃ r : List Int, Ev (fun k => spec_l06Start.l0 k o out sum (i : Int) den nums) r ∧ r.length = n ∧ ∀ x ∈ r, -1000000 ≤ x ∧ x ≤ 1000000 := by
  intro e
  induction e with
  | zero =>
    intro i out sum hi hl hb _ _
    refine ⟨out, ?_, hl, hb⟩
    apply Ev.succ
    simp only [spec_l06Start.l0, if_neg (show ¬ (i : Int) < (o.length : Int) by omega)]
    exact Ev.now _
  | succ e ih =>
    intro i out sum hi hl hb s0 s1
    have hio : i < o.length := by omega
    have hq := hx o[i] (List.getElem_mem hio)
    obtain ⟨m, hm⟩ := Int.eq_ofNat_of_zero_le hq.1
    have hmn : m < nums.length := by omega
    have hvv := hv nums[m] (List.getElem_mem hmn)
    have e1 : rd o (i : Int) = (m : Int) := by rw [rd_get hio]; exact hm
    have e2 : rd nums (m : Int) = nums[m] := rd_get hmn
    have f1 := ediv_range (a := sum + nums[m]) (b := den) (m := 100000) (by omega) (by omega) (by omega) (by omega)
    have f2 := ediv_range (a := sum) (b := den) (m := 100000) (by omega) (by omega) (by omega) (by omega)
    obtain ⟨r, hr, hr1, hr2⟩ := ih (i + 1) (out.set m ((sum + nums[m]) / den - sum / den)) (sum + nums[m]) (by omega) (by simpa using hl) (fun x hx' => by
      rcases List.mem_or_eq_of_mem_set hx' with h | h
      · exact hb x h
      · rw [h]; omega) (by omega) (by omega)
    refine ⟨r, ?_, hr1, hr2⟩
    apply Ev.succ
    simp only [spec_l06Start.l0, if_pos (show (i : Int) < (o.length : Int) by omega), if_pos (show 0 ≤ (i : Int) by omega), e1, if_pos (show 0 ≤ (m : Int) by omega), if_pos (show (m : Int) < (nums.length : Int) by omega), e2, w64 (show (-9223372036854775808) ≤ sum + nums[m] by omega) (by omega), sfloor_eq (a := sum + nums[m]) (b := den) (by omega) (by omega) (by omega), sfloor_eq (a := sum) (b := den) (by omega) (by omega) (by omega), Option.bind_some, if_pos (show (m : Int) < (out.length : Int) by omega), w64 (show (-9223372036854775808) ≤ (sum + nums[m]) / den - sum / den by omega) (by omega), Int.toNat_natCast, inc hio (by omega)]
    exact hr
theorem sta_ev (o : List Int) (den : Int) (nums : List Int) (n : Nat) (t : Int) (hn : n ≤ 40) (hd : 1 ≤ den ∧ den ≤ 12) (hnl : nums.length = n) (ho : o.length = n) (hx : ∀ x ∈ o, 0 ≤ x ∧ x < n) (hv : ∀ x ∈ nums, -20 ≤ x ∧ x ≤ 39) (h0 : 0 ≤ t) (h1 : t ≤ 12) : ∃ r : List Int, Ev (fun k => spec_l06Start.f k den nums o t) r ∧ r.length = n ∧ ∀ x ∈ r, -1000000 ≤ x ∧ x ≤ 1000000 := by
  obtain ⟨r, hr, hr1, hr2⟩ := sta_l0 o den nums n hn hd hnl ho hx hv n 0 (List.replicate n 0) t (by omega) (by simp) (fun x hx => by
    have := (List.mem_replicate.1 hx).2
    omega) (by omega) (by omega)
  refine ⟨r, ?_, hr1, hr2⟩
  unfold spec_l06Start.f
  simp only [ho, if_pos (show 0 ≤ (n : Int) by omega), Int.toNat_natCast, if_pos (show n ≤ 35184372088832 by omega)]
  exact hr

/-! spec.l06Systematic -/
/-- Weights and lists of one length, all lists other ones. -/
def GM (n : Nat) (W : List Int) (L : List (List Int)) : Prop := W.length = L.length ∧ (∀ w ∈ W, 1 ≤ w) ∧ (∀ r ∈ L, r.length = n ∧ ∀ x ∈ r, -1000000 ≤ x ∧ x ≤ 1000000) ∧ L.Nodup
theorem rdl_sys {xs : List (List Int)} {i : Nat} (h : i < xs.length) : rd_L1 xs (i : Int) = xs[i] := by
  unfold rd_L1; exact getD_get h
theorem sum_le_mem : ∀ {W : List Int}, (∀ w ∈ W, 1 ≤ w) → (∀ w ∈ W, w ≤ W.sum) ∧ (W.length : Int) ≤ W.sum
  | [], _ => ⟨fun _ h => (by simp at h), by simp⟩
  | x :: W, h => by
    have h1 := sum_le_mem (W := W) (fun w hw => h w (List.mem_cons_of_mem _ hw))
    have h2 := h x List.mem_cons_self
    rw [List.sum_cons, List.length_cons]
    refine ⟨fun w hw => ?_, by omega⟩
    rcases List.mem_cons.1 hw with rfl | hw
    · omega
    · have := h1.1 w hw; omega
theorem gm_push {n : Nat} {W : List Int} {L : List (List Int)} {r : List Int} {w : Int} (h : GM n W L) (hw : 1 ≤ w) (hr : r.length = n) (hb : ∀ x ∈ r, -1000000 ≤ x ∧ x ≤ 1000000) (hn : r ∉ L) : GM n (W ++ [w]) (L ++ [r]) := by
  obtain ⟨h1, h2, h3, h4⟩ := h
  refine ⟨by simp [h1], fun x hx => ?_, fun x hx => ?_, ?_⟩
  · rcases List.mem_append.1 hx with h | h
    · exact h2 x h
    · rw [List.mem_singleton.1 h]; exact hw
  · rcases List.mem_append.1 hx with h | h
    · exact h3 x h
    · rw [List.mem_singleton.1 h]; exact ⟨hr, hb⟩
  · rw [List.nodup_append]
    exact ⟨h4, by simp, fun a ha b hb' e => hn (by rw [← List.mem_singleton.1 hb', ← e]; exact ha)⟩
theorem gm_bump {n : Nat} {W : List Int} {L : List (List Int)} {i : Nat} {w : Int} (h : GM n W L) (hw : 1 ≤ w) : GM n (W.set i w) L :=
  ⟨by simpa using h.1, fun x hx => by
    rcases List.mem_or_eq_of_mem_set hx with h' | h'
    · exact h.2.1 x h'
    · omega, h.2.2⟩
/-- What a place and a list make of a mixture. -/
def sysAt (i : Nat) (r : List Int) (W : List Int) (L : List (List Int)) : List Int × List (List Int) := if i < L.length then (W.set i (W.getD i 0 + 1), L) else (W ++ [1], L ++ [r])
theorem sys_l1 (o : List Int) (t den : Int) (nums r : List Int) (n : Nat) (W : List Int) (L : List (List Int)) (h : GM n W L) (hs : W.sum ≤ 12) (hn : n ≤ 40) (hr : r.length = n) (ht : 0 ≤ t ∧ t ≤ 12) {s : List Int × List (List Int)} :
    ∀ (e i : Nat), e + i = L.length → (∀ j, j < i → L.getD j [] ≠ r) → ∃ i0 : Nat, i0 ≤ L.length ∧ (∀ j, j < i0 → L.getD j [] ≠ r) ∧ (i0 < L.length → L.getD i0 [] = r) ∧ (Ev (fun k => spec_l06Systematic.l0 k o (t + 1) den nums (sysAt i0 r W L).1 (sysAt i0 r W L).2) s → Ev (fun k => spec_l06Systematic.l1 k o t r (i : Int) den nums W L) s) := by
  have hb := sum_le_mem h.2.1
  have hl := h.1
  intro e
  induction e with
  | zero =>
    intro i hi hj
    have e : i = L.length := by omega
    subst e
    refine ⟨L.length, Nat.le_refl _, hj, fun h => absurd h (Nat.lt_irrefl _), fun hs' => ?_⟩
    have q1 : (W ++ [0] : List Int).length = L.length + 1 := by simp [hl]
    have q2 : rd (W ++ [0] : List Int) (L.length : Int) = 0 := by
      rw [rd_get (show L.length < (W ++ [0] : List Int).length by omega), List.getElem_append_right (by omega)]
      simp
    have q3 : (W ++ [0] : List Int).set L.length (0 + 1) = W ++ [1] := by
      rw [List.set_append_right _ _ (by omega), hl, Nat.sub_self]; rfl
    have q4 : sysAt L.length r W L = (W ++ [1], L ++ [r]) := by simp [sysAt]
    rw [q4] at hs'
    apply Ev.succ
    simp only [spec_l06Systematic.l1, if_neg (show ¬ (L.length : Int) < (L.length : Int) by omega), if_true, if_pos (show L.length < 5864062014805 by omega), if_pos (show W.length < 17592186044416 by omega), Option.bind_some, if_pos (show 0 ≤ (L.length : Int) by omega), if_pos (show (L.length : Int) < ((W ++ [0] : List Int).length : Int) by omega), q2, Int.toNat_natCast, w64 (show (-9223372036854775808) ≤ (0 : Int) + 1 by omega) (by omega), q3, w64 (show (-9223372036854775808) ≤ t + 1 by omega) (by omega)]
    exact hs'
  | succ e ih =>
    intro i hi hj
    have hil : i < L.length := by omega
    have hlen := h.2.2.1 L[i] (List.getElem_mem hil)
    have g : L.getD i [] = L[i] := by simp [List.getD_eq_getElem?_getD, hil]
    by_cases c : L[i] = r
    · refine ⟨i, by omega, hj, fun _ => by rw [g, c], fun hs' => ?_⟩
      have hw := h.2.1 W[i] (List.getElem_mem (by omega))
      have hw2 := hb.1 W[i] (List.getElem_mem (by omega))
      have q1 : rd W (i : Int) = W.getD i 0 := by unfold rd; simp
      have q2 : W.getD i 0 = W[i] := by simp [List.getD_eq_getElem?_getD, show i < W.length by omega]
      have q4 : sysAt i r W L = (W.set i (W.getD i 0 + 1), L) := by simp [sysAt, hil]
      rw [q4] at hs'
      apply Ev.succ
      simp only [spec_l06Systematic.l1, if_pos (show (i : Int) < (L.length : Int) by omega), if_pos (show 0 ≤ (i : Int) by omega), rdl_sys hil]
      refine Ev.bind (same_ev L[i] r (by omega)) ?_
      simp only [decide_eq_true c, if_true, if_neg (show ¬ (i : Int) = (L.length : Int) by omega), if_pos (show (i : Int) < (W.length : Int) by omega), q1, Int.toNat_natCast, w64 (show (-9223372036854775808) ≤ W.getD i 0 + 1 by rw [q2]; omega) (by rw [q2]; omega), w64 (show (-9223372036854775808) ≤ t + 1 by omega) (by omega)]
      exact hs'
    · obtain ⟨i0, h1, h2, h3, h4⟩ := ih (i + 1) (by omega) (fun j hj' => by
        by_cases e : j = i
        · subst e; rw [g]; exact c
        · exact hj j (by omega))
      refine ⟨i0, h1, h2, h3, fun hs' => ?_⟩
      apply Ev.succ
      simp only [spec_l06Systematic.l1, if_pos (show (i : Int) < (L.length : Int) by omega), if_pos (show 0 ≤ (i : Int) by omega), rdl_sys hil]
      refine Ev.bind (same_ev L[i] r (by omega)) ?_
      simp only [decide_eq_false c, Bool.false_eq_true, if_false, inc hil (by omega)]
      exact h4 hs'
theorem sys_l0 (o : List Int) (den : Int) (nums : List Int) (n : Nat) (hn : n ≤ 40) (hd : 1 ≤ den ∧ den ≤ 12) (hnl : nums.length = n) (ho : o.length = n) (hx : ∀ x ∈ o, 0 ≤ x ∧ x < n) (hv : ∀ x ∈ nums, -20 ≤ x ∧ x ≤ 39) : ∀ (e : Nat) (t : Int) (W : List Int) (L : List (List Int)), t + e = den → 0 ≤ t → GM n W L → W.sum = t → ∃ r : List Int × List (List Int), Ev (fun k => spec_l06Systematic.l0 k o t den nums W L) r ∧ GM n r.1 r.2 ∧ r.1.sum = den := by
  intro e
  induction e with
  | zero =>
    intro t W L he _ h hs
    refine ⟨(W, L), ?_, h, by show W.sum = den; omega⟩
    apply Ev.succ
    simp only [spec_l06Systematic.l0, if_neg (show ¬ t < den by omega)]
    exact Ev.now _
  | succ e ih =>
    intro t W L he h0 h hs
    obtain ⟨r, hr, hr1, hr2⟩ := sta_ev o den nums n t hn hd hnl ho hx hv h0 (by omega)
    have key : ∀ i0 : Nat, i0 ≤ L.length → (∀ j, j < i0 → L.getD j [] ≠ r) → GM n (sysAt i0 r W L).1 (sysAt i0 r W L).2 ∧ (sysAt i0 r W L).1.sum = t + 1 := by
      intro i0 h1 h2
      unfold sysAt
      by_cases c : i0 < L.length
      · have hw : i0 < W.length := by rw [h.1]; exact c
        have q2 : W.getD i0 0 = W[i0] := by simp [List.getD_eq_getElem?_getD, hw]
        have := h.2.1 W[i0] (List.getElem_mem hw)
        simp only [if_pos c]
        refine ⟨gm_bump h (by omega), ?_⟩
        rw [sum_set W i0 _ hw, q2]; omega
      · simp only [if_neg c]
        refine ⟨gm_push h (by omega) hr1 hr2 (fun hm => ?_), by rw [List.sum_append]; simp; omega⟩
        obtain ⟨j, hj, e⟩ := List.getElem_of_mem hm
        exact h2 j (by omega) (by simp [List.getD_eq_getElem?_getD, hj, e])
    obtain ⟨i0, g1, g2, g3, _⟩ := sys_l1 o t den nums r n W L h (by omega) hn hr1 (by omega) (s := ([], [])) L.length 0 (by omega) (fun j hj => absurd hj (Nat.not_lt_zero _))
    obtain ⟨q1, q2⟩ := key i0 g1 g2
    obtain ⟨s, hs', hs1, hs2⟩ := ih (t + 1) (sysAt i0 r W L).1 (sysAt i0 r W L).2 (by omega) (by omega) q1 q2
    obtain ⟨i1, g1', g2', g3', g4'⟩ := sys_l1 o t den nums r n W L h (by omega) hn hr1 (by omega) (s := s) L.length 0 (by omega) (fun j hj => absurd hj (Nat.not_lt_zero _))
    have hi : i1 = i0 := by
      rcases Nat.lt_trichotomy i1 i0 with c | c | c
      · exact absurd (g3' (by omega)) (g2 i1 c)
      · exact c
      · exact absurd (g3 (by omega)) (g2' i0 c)
    subst hi
    refine ⟨s, ?_, hs1, hs2⟩
    apply Ev.succ
    simp only [spec_l06Systematic.l0, if_pos (show t < den by omega)]
    exact Ev.bind hr (g4' hs')
theorem sys_ev (o : List Int) (den : Int) (nums : List Int) (n : Nat) (hn : n ≤ 40) (hd : 1 ≤ den ∧ den ≤ 12) (hnl : nums.length = n) (ho : o.length = n) (hx : ∀ x ∈ o, 0 ≤ x ∧ x < n) (hv : ∀ x ∈ nums, -20 ≤ x ∧ x ≤ 39) : ∃ r : List Int × List (List Int), Ev (fun k => spec_l06Systematic.f k den nums o) r ∧ GM n r.1 r.2 ∧ r.1.sum = den :=
  sys_l0 o den nums n hn hd hnl ho hx hv den.toNat 0 [] [] (by omega) (by omega) ⟨rfl, fun _ h => (by simp at h), fun _ h => (by simp at h), List.nodup_nil⟩ rfl

/-! spec.l00Src).next -/
theorem rd_byte {c : List Int} (hc : ∀ x ∈ c, 0 ≤ x ∧ x ≤ 255) (i : Int) : 0 ≤ rd c i ∧ rd c i ≤ 255 := by
  unfold rd
  by_cases h : i.toNat < c.length
  · rw [List.getD_eq_getElem?_getD, List.getElem?_eq_getElem h]
    exact hc _ (List.getElem_mem h)
  · rw [List.getD_eq_getElem?_getD, List.getElem?_eq_none (by omega)]
    simp
theorem next_ok (c : List Int) (a s : Int) (hc : ∀ x ∈ c, 0 ≤ x ∧ x ≤ 255) (h0 : 0 ≤ a) (h1 : a ≤ 4611686018427387904) : ∃ v s', spec_l00Src_next.f c a s = some (v, a + 1, s') ∧ 0 ≤ v ∧ v ≤ 255 := by
  have hb := rd_byte hc a
  have e1 : wrap64 (a + 1) = a + 1 := w64 (by omega) (by omega)
  have hv : ∀ X : Int, 0 ≤ wrap64 (Go.bits .and .u64 ((IntKind.u64.wrap X) / 1099511627776) 255) ∧ wrap64 (Go.bits .and .u64 ((IntKind.u64.wrap X) / 1099511627776) 255) ≤ 255 := by
    intro X
    have h := u64_range X
    generalize IntKind.u64.wrap X = Y at h
    rw [bits255 _ (by omega) (by omega), w64 (by omega) (by omega)]
    omega
  unfold spec_l00Src_next.f
  by_cases h : a < (c.length : Int)
  · rw [if_pos h, if_pos h0, e1, if_pos (by omega), w64 (by omega) (by omega)]
    exact ⟨_, _, rfl, hb.1, hb.2⟩
  · rw [if_neg h, e1, if_neg (by omega)]
    exact ⟨_, _, rfl, (hv _).1, (hv _).2⟩

/-! spec.l00Src).pick -/
theorem pick_ok (c : List Int) (a s n : Int) (hc : ∀ x ∈ c, 0 ≤ x ∧ x ≤ 255) (h0 : 0 ≤ a) (h1 : a ≤ 4611686018427387900) (hn : 1 ≤ n) : ∃ v a' s', spec_l00Src_pick.f c a s n = some (v, a', s') ∧ 0 ≤ v ∧ v < n ∧ a ≤ a' ∧ a' ≤ a + 2 := by
  have hm : ∀ x : Int, 0 ≤ x → 2 ≤ n → 0 ≤ x.tmod n ∧ x.tmod n < n := fun x hx h2 => ⟨Int.tmod_nonneg n hx, Int.tmod_lt_of_pos x (by omega)⟩
  unfold spec_l00Src_pick.f
  by_cases h : n ≤ 1
  · rw [if_pos h]
    exact ⟨_, _, _, rfl, by omega, by omega, by omega, by omega⟩
  · rw [if_neg h]
    obtain ⟨v, s1, e, v0, v1⟩ := next_ok c a s hc h0 (by omega)
    rw [e, Option.bind_some]
    by_cases h2 : n > 200
    · obtain ⟨v', s2, e2, v2, v3⟩ := next_ok c (a + 1) s1 hc (by omega) (by omega)
      rw [if_pos h2, e2, Option.bind_some, if_neg (by omega), w64 (show -9223372036854775808 ≤ v * 256 by omega) (by omega), w64 (by omega) (by omega)]
      have := hm (v * 256 + v') (by omega) (by omega)
      exact ⟨_, _, _, rfl, this.1, this.2, by show a ≤ a + 1 + 1; omega, by show a + 1 + 1 ≤ a + 2; omega⟩
    · rw [if_neg h2, if_neg (by omega)]
      have := hm v v0 (by omega)
      exact ⟨_, _, _, rfl, this.1, this.2, by show a ≤ a + 1; omega, by show a + 1 ≤ a + 2; omega⟩

/-! spec.l04All -/
theorem all4_l0 (n : Nat) (hn : n ≤ 1000) : ∀ (e i : Nat), e + i = n → Ev (fun k => spec_l04All.l0 k (n : Int) ((List.range i).map fun j : Nat => (j : Int)) (i : Int)) ((List.range n).map fun j : Nat => (j : Int)) := by
  intro e
  induction e with
  | zero =>
    intro i hi
    have e : i = n := by omega
    subst e
    apply Ev.succ
    simp only [spec_l04All.l0, if_neg (show ¬ (i : Int) < (i : Int) by omega)]
    exact Ev.now _
  | succ e ih =>
    intro i hi
    have h := ih (i + 1) (by omega)
    rw [List.range_succ, List.map_append] at h
    apply Ev.succ
    simp only [spec_l04All.l0, if_pos (show (i : Int) < (n : Int) by omega), if_pos (show ((List.range i).map fun j : Nat => (j : Int)).length < 17592186044416 by simp; omega), inc (show i < n by omega) (by omega)]
    exact h
theorem all4_ev (n : Nat) (hn : n ≤ 1000) : Ev (fun k => spec_l04All.f k (n : Int)) ((List.range n).map fun j : Nat => (j : Int)) := all4_l0 n hn n 0 (by omega)

/-! spec.l06DrawOrder -/
theorem dor_l0 (c : List Int) (hc : ∀ x ∈ c, 0 ≤ x ∧ x ≤ 255) (n : Nat) (hn : n ≤ 40) : ∀ (e : Nat) (i : Int) (o : List Int) (a s : Int), (i = e ∨ (e = 0 ∧ i ≤ 0)) → e ≤ n - 1 → o.length = n → (∀ x ∈ o, 0 ≤ x ∧ x < n) → 0 ≤ a → a + 2 * e ≤ 4000 → ∃ (r : List Int) (a' s' : Int), Ev (fun k => spec_l06DrawOrder.l0 k o i c a s) (r, a', s') ∧ r.length = n ∧ (∀ x ∈ r, 0 ≤ x ∧ x < n) ∧ a ≤ a' ∧ a' ≤ a + 2 * e := by
  intro e
  induction e with
  | zero =>
    intro i o a s hi _ hl hx _ _
    refine ⟨o, a, s, ?_, hl, hx, by omega, by omega⟩
    apply Ev.succ
    simp only [spec_l06DrawOrder.l0, if_neg (show ¬ i > 0 by omega)]
    exact Ev.now _
  | succ e ih =>
    intro i o a s hi he hl hx h0 h1
    have hi : i = (e : Int) + 1 := by omega
    have hen : e + 1 < n := by omega
    obtain ⟨v, a1, s1, hp, v0, v1, q0, q1⟩ := pick_ok c a s (i + 1) hc h0 (by omega) (by omega)
    obtain ⟨m, hm⟩ := Int.eq_ofNat_of_zero_le v0
    have hm' : m < o.length := by omega
    have g1 : rd o i ∈ o := by rw [show i = ((e + 1 : Nat) : Int) by omega, rd_get (show e + 1 < o.length by omega)]; exact List.getElem_mem _
    have g2 : rd o v ∈ o := by rw [hm]; exact (rd_get hm') ▸ List.getElem_mem hm'
    obtain ⟨r, a', s', hr, hr1, hr2, hr3, hr4⟩ := ih (i - 1) ((o.set v.toNat (rd o i)).set i.toNat (rd o v)) a1 s1 (by omega) (by omega) (by simp; omega) (fun x hx' => by
      rcases List.mem_or_eq_of_mem_set hx' with h | h
      · rcases List.mem_or_eq_of_mem_set h with h | h
        · exact hx x h
        · rw [h]; exact hx _ g1
      · rw [h]; exact hx _ g2) (by omega) (by omega)
    refine ⟨r, a', s', ?_, hr1, hr2, by omega, by omega⟩
    apply Ev.succ
    simp only [spec_l06DrawOrder.l0, if_pos (show i > 0 by omega), w64 (show (-9223372036854775808) ≤ i + 1 by omega) (by omega), hp, Option.bind_some, if_pos v0, if_pos (show v < (o.length : Int) by omega), if_pos (show 0 ≤ i by omega), if_pos (show i < (o.length : Int) by omega), w64 (show (-9223372036854775808) ≤ i - 1 by omega) (by omega)]
    exact hr
theorem dor_ev (c : List Int) (hc : ∀ x ∈ c, 0 ≤ x ∧ x ≤ 255) (n : Nat) (hn : n ≤ 40) (a s : Int) (h0 : 0 ≤ a) (h1 : a ≤ 1000) : ∃ (r : List Int) (a' s' : Int), Ev (fun k => spec_l06DrawOrder.f k c a s (n : Int)) (r, a', s') ∧ r.length = n ∧ (∀ x ∈ r, 0 ≤ x ∧ x < n) ∧ a ≤ a' ∧ a' ≤ a + 80 := by
  obtain ⟨r, a', s', hr, hr1, hr2, hr3, hr4⟩ := dor_l0 c hc n hn (n - 1) ((n : Int) - 1) ((List.range n).map fun j : Nat => (j : Int)) a s (by omega) (by omega) (by simp) (fun x hx => by
    obtain ⟨j, hj, rfl⟩ := List.mem_map.1 hx
    have := List.mem_range.1 hj
    omega) h0 (by omega)
  refine ⟨r, a', s', ?_, hr1, hr2, hr3, by omega⟩
  unfold spec_l06DrawOrder.f
  refine Ev.bind (all4_ev n (by omega)) ?_
  simp only [w64 (show (-9223372036854775808) ≤ (n : Int) - 1 by omega) (by omega)]
  exact hr

/-! spec.l00Src).one -/
theorem one_ok (c : List Int) (a s n : Int) (hc : ∀ x ∈ c, 0 ≤ x ∧ x ≤ 255) (h0 : 0 ≤ a) (h1 : a ≤ 4611686018427387900) (hn : 1 ≤ n) : ∃ (v : Bool) (a' s' : Int), spec_l00Src_one.f c a s n = some (v, a', s') ∧ a ≤ a' ∧ a' ≤ a + 2 := by
  obtain ⟨v, a', s', e, _, _, h2, h3⟩ := pick_ok c a s n hc h0 h1 hn
  unfold spec_l00Src_one.f
  rw [e, Option.bind_some]
  exact ⟨_, _, _, rfl, h2, h3⟩

/-! spec.l01DrawOk -/
theorem dok_l0 (c : List Int) (hc : ∀ x ∈ c, 0 ≤ x ∧ x ≤ 255) (low den : Int) (hl : low = 0 ∨ low = 20) : ∀ (e : Nat) (n : Int) (xs : List Int) (a s : Int), n = e → e ≤ 40 → xs.length + e ≤ 40 → 0 ≤ a → a + 2 * e ≤ 4000 → (∀ x ∈ xs, -20 ≤ x ∧ x ≤ 39) → ∃ (r : List Int) (a' s' : Int), Ev (fun k => spec_l01DrawOk.l0 k low n c a s den xs) (den, r, a', s') ∧ r.length ≤ 40 ∧ (∀ x ∈ r, -20 ≤ x ∧ x ≤ 39) ∧ a ≤ a' ∧ a' ≤ a + 2 * e := by
  intro e
  induction e with
  | zero =>
    intro n xs a s hn _ hl2 _ _ hx
    refine ⟨xs, a, s, ?_, by omega, hx, by omega, by omega⟩
    apply Ev.succ
    simp only [spec_l01DrawOk.l0, if_neg (show ¬ n > 0 by omega)]
    exact Ev.now _
  | succ e ih =>
    intro n xs a s hn he hl2 h0 h1 hx
    obtain ⟨v, a1, s1, hp, v0, v1, q0, q1⟩ := pick_ok c a s 40 hc h0 (by omega) (by omega)
    obtain ⟨r, a', s', hr, hr1, hr2, hr3, hr4⟩ := ih (n - 1) (xs ++ [v - low]) a1 s1 (by omega) (by omega) (by simp; omega) (by omega) (by omega) (fun x hx' => by
      rcases List.mem_append.1 hx' with h | h
      · exact hx x h
      · rw [List.mem_singleton.1 h]; omega)
    refine ⟨r, a', s', ?_, hr1, hr2, by omega, by omega⟩
    apply Ev.succ
    simp only [spec_l01DrawOk.l0, if_pos (show n > 0 by omega), hp, Option.bind_some, if_pos (show xs.length < 17592186044416 by omega), w64 (show (-9223372036854775808) ≤ v - low by omega) (by omega), w64 (show (-9223372036854775808) ≤ n - 1 by omega) (by omega)]
    exact hr
theorem dok_j0 (c : List Int) (hc : ∀ x ∈ c, 0 ≤ x ∧ x ≤ 255) (low den a s : Int) (hl : low = 0 ∨ low = 20) (h0 : 0 ≤ a) (h1 : a ≤ 1000) : ∃ (r : List Int) (a' s' : Int), Ev (fun k => spec_l01DrawOk.j0 k low c a s den []) (den, r, a', s') ∧ r.length ≤ 40 ∧ (∀ x ∈ r, -20 ≤ x ∧ x ≤ 39) ∧ a ≤ a' ∧ a' ≤ a + 84 := by
  obtain ⟨v, a1, s1, hp, v0, v1, q0, q1⟩ := pick_ok c a s 8 hc h0 (by omega) (by omega)
  obtain ⟨b, a2, s2, hb, b0, b1⟩ := one_ok c a1 s1 24 hc (by omega) (by omega) (by omega)
  obtain ⟨m, hm⟩ := Int.eq_ofNat_of_zero_le v0
  cases b with
  | true =>
    obtain ⟨r, a', s', hr, hr1, hr2, hr3, hr4⟩ := dok_l0 c hc low den hl 40 40 [] a2 s2 (by omega) (by omega) (by simp) (by omega) (by omega) (fun x hx => by simp at hx)
    refine ⟨r, a', s', ?_, hr1, hr2, by omega, by omega⟩
    apply Ev.succ
    simp only [spec_l01DrawOk.j0, hp, Option.bind_some, hb, if_true]
    apply Ev.succ
    simp only [spec_l01DrawOk.j1]
    exact hr
  | false =>
    obtain ⟨r, a', s', hr, hr1, hr2, hr3, hr4⟩ := dok_l0 c hc low den hl m v [] a2 s2 (by omega) (by omega) (by simp; omega) (by omega) (by omega) (fun x hx => by simp at hx)
    refine ⟨r, a', s', ?_, hr1, hr2, by omega, by omega⟩
    apply Ev.succ
    simp only [spec_l01DrawOk.j0, hp, Option.bind_some, hb, Bool.false_eq_true, if_false]
    apply Ev.succ
    simp only [spec_l01DrawOk.j1]
    exact hr
theorem dok_ev (c : List Int) (hc : ∀ x ∈ c, 0 ≤ x ∧ x ≤ 255) (a s : Int) (h0 : 0 ≤ a) (h1 : a ≤ 900) : ∃ (den : Int) (r : List Int) (a' s' : Int), Ev (fun k => spec_l01DrawOk.f k c a s) (den, r, a', s') ∧ 1 ≤ den ∧ den ≤ 12 ∧ r.length ≤ 40 ∧ (∀ x ∈ r, -20 ≤ x ∧ x ≤ 39) ∧ a ≤ a' ∧ a' ≤ a + 88 := by
  obtain ⟨v, a1, s1, hp, v0, v1, q0, q1⟩ := pick_ok c a s 12 hc h0 (by omega) (by omega)
  obtain ⟨b, a2, s2, hb, b0, b1⟩ := one_ok c a1 s1 6 hc (by omega) (by omega) (by omega)
  cases b with
  | true =>
    obtain ⟨r, a', s', hr, hr1, hr2, hr3, hr4⟩ := dok_j0 c hc 20 (1 + v) a2 s2 (.inr rfl) (by omega) (by omega)
    refine ⟨1 + v, r, a', s', ?_, by omega, by omega, hr1, hr2, by omega, by omega⟩
    simp only [spec_l01DrawOk.f, hp, Option.bind_some, hb, if_true, w64 (show (-9223372036854775808) ≤ 1 + v by omega) (by omega)]
    exact hr
  | false =>
    obtain ⟨r, a', s', hr, hr1, hr2, hr3, hr4⟩ := dok_j0 c hc 0 (1 + v) a2 s2 (.inl rfl) (by omega) (by omega)
    refine ⟨1 + v, r, a', s', ?_, by omega, by omega, hr1, hr2, by omega, by omega⟩
    simp only [spec_l01DrawOk.f, hp, Option.bind_some, hb, Bool.false_eq_true, if_false, w64 (show (-9223372036854775808) ≤ 1 + v by omega) (by omega)]
    exact hr

/-! spec.l06DrawOk -/
theorem gm_vm {n : Nat} {W : List Int} {L : List (List Int)} (h : GM n W L) (hn : n ≤ 40) (h0 : 1 ≤ W.sum) (h1 : W.sum ≤ 64) : VM W L = true := by
  obtain ⟨g1, g2, g3, g4⟩ := h
  have hb := sum_le_mem g2
  have hne : 1 ≤ L.length := by
    rcases Nat.eq_zero_or_pos L.length with e | e
    · rw [e] at g1
      rw [List.length_eq_zero_iff.1 g1] at h0
      simp at h0
    · exact e
  have hd : (L.headD []).length = n := by
    cases L with
    | nil => simp at hne
    | cons r L => exact (g3 r List.mem_cons_self).1
  have hs : wsum 0 W = W.sum := by
    rw [wsum_eq 64 W 0 (fun x hx => by have := g2 x hx; have := hb.1 x hx; omega) (by omega) (by omega) (by omega)]; omega
  simp only [VM, mxW, Bool.and_eq_true, decide_eq_true_eq, List.all_eq_true, hs, hd]
  refine ⟨by omega, g1, hn, fun w hw => ?_, fun i hi => ?_, by omega⟩
  · have := g2 w hw; have := hb.1 w hw; omega
  · have hi' : i < L.length := by simpa using hi
    have gi : L.getD i [] = L[i] := by simp [List.getD_eq_getElem?_getD, hi']
    have := g3 L[i] (List.getElem_mem hi')
    simp only [mxRow, Bool.and_eq_true, decide_eq_true_eq, List.all_eq_true, hd, gi]
    refine ⟨this.1, this.2, fun j hj => ?_⟩
    have hj' : j < i := by simpa using hj
    have gj : L.getD j [] = L[j] := by simp [List.getD_eq_getElem?_getD, show j < L.length by omega]
    simp only [gj, Bool.not_eq_true', decide_eq_false_iff_not]
    intro e
    exact absurd ((List.getElem_inj g4).1 e) (by omega)
theorem vm_sum {W : List Int} {L : List (List Int)} (h : VM W L = true) : W.length ≤ 64 := by
  have := vm_facts h
  omega
theorem mok_l1 (c : List Int) (hc : ∀ x ∈ c, 0 ≤ x ∧ x ≤ 255) (n e : Int) (W : List Int) (L : List (List Int)) (hn : 0 ≤ n ∧ n ≤ 3) (he : 1 ≤ e ∧ e ≤ 4) (hW : VM W L = true ∨ (W = [] ∧ L = [])) (hl : W.length ≤ 4 ∧ L.length ≤ 4)
    (hgo : ∀ (W' : List Int) (L' : List (List Int)) (a s : Int), VM W' L' = true → W'.sum ≤ W.sum + 6 → W'.length ≤ W.length + 1 → L'.length ≤ L.length + 1 → 0 ≤ a → a ≤ 1000 - 10 * (e - 1) → ∃ r : List Int × List (List Int) × Int × Int, Ev (fun k => spec_l06DrawOk.l0 k n (e - 1) c a s W' L') r ∧ VM r.1 r.2.1 = true ∧ r.1.sum ≤ 24) (hs : 0 ≤ W.sum) :
    ∀ (d i : Nat) (xs : List Int) (a s : Int), (d + i : Int) = n → xs.length = i → (∀ x ∈ xs, -1 ≤ x ∧ x ≤ 3) → 0 ≤ a → a + 2 * d + 2 ≤ 1000 - 10 * (e - 1) → ∃ r : List Int × List (List Int) × Int × Int, Ev (fun k => spec_l06DrawOk.l1 k n e xs (i : Int) c a s W L) r ∧ VM r.1 r.2.1 = true ∧ r.1.sum ≤ 24 := by
  intro d
  induction d with
  | zero =>
    intro i xs a s hd hx hb h0 h1
    obtain ⟨v, a1, s1, hp, v0, v1, q0, q1⟩ := pick_ok c a s 6 hc h0 (by omega) (by omega)
    have hlr : ∀ r ∈ L ++ [xs], r.length ≤ 1048576 := by
      intro r hr
      rcases List.mem_append.1 hr with h | h
      · rcases hW with hW | hW
        · obtain ⟨f1, f2, f3, f4, f5, f6, f7⟩ := vm_facts hW
          obtain ⟨j, hj, rfl⟩ := List.getElem_of_mem h
          have := (f6 j hj).1
          rw [show L.getD j [] = L[j] by simp [List.getD_eq_getElem?_getD, hj]] at this
          omega
        · rw [hW.2] at h; simp at h
      · rw [List.mem_singleton.1 h]; omega
    have hit : ∃ r : List Int × List (List Int) × Int × Int, Ev (fun k => (spec_l06Is.f k (W ++ [1 + v]) (L ++ [xs])).bind fun t => if t = true then spec_l06DrawOk.l0 k n (e - 1) c a1 s1 (W ++ [1 + v]) (L ++ [xs]) else spec_l06DrawOk.l0 k n (e - 1) c a1 s1 W L) r ∧ VM r.1 r.2.1 = true ∧ r.1.sum ≤ 24 := by
      cases hv : VM (W ++ [1 + v]) (L ++ [xs]) with
      | true =>
        obtain ⟨r, hr, hr1, hr2⟩ := hgo (W ++ [1 + v]) (L ++ [xs]) a1 s1 hv (by rw [List.sum_append]; simp; omega) (by simp) (by simp) (by omega) (by omega)
        refine ⟨r, Ev.bind ((l06Is_ev _ _ (by simp; omega) (by simp; omega) hlr).to hv) ?_, hr1, hr2⟩
        simp only [if_true]
        exact hr
      | false =>
        rcases hW with hW | hW
        · obtain ⟨r, hr, hr1, hr2⟩ := hgo W L a1 s1 hW (by omega) (by omega) (by omega) (by omega) (by omega)
          refine ⟨r, Ev.bind ((l06Is_ev _ _ (by simp; omega) (by simp; omega) hlr).to hv) ?_, hr1, hr2⟩
          simp only [Bool.false_eq_true, if_false]
          exact hr
        · exfalso
          rw [hW.1, hW.2, List.nil_append, List.nil_append] at hv
          have : VM [1 + v] [xs] = true := gm_vm (n := xs.length) ⟨rfl, fun w hw => by rw [List.mem_singleton.1 hw]; omega, fun r hr => by rw [List.mem_singleton.1 hr]; exact ⟨rfl, fun x hx' => by have := hb x hx'; omega⟩, by simp⟩ (by omega) (by simp; omega) (by simp; omega)
          rw [hv] at this
          cases this
    obtain ⟨r, hr, hr1, hr2⟩ := hit
    refine ⟨r, ?_, hr1, hr2⟩
    apply Ev.succ
    simp only [spec_l06DrawOk.l1, if_neg (show ¬ (i : Int) < n by omega), hp, Option.bind_some, own_eq W (show W.length ≤ 1048576 by omega), w64 (show (-9223372036854775808) ≤ 1 + v by omega) (by omega), if_pos (show W.length + ([1 + v] : List Int).length < 17592186044416 by simp; omega), List.nil_append, if_pos (show ([] : List (List Int)).length + L.length < 5864062014805 by simp; omega), if_pos (show L.length + ([xs] : List (List Int)).length < 5864062014805 by simp; omega), w64 (show (-9223372036854775808) ≤ e - 1 by omega) (by omega)]
    exact hr
  | succ d ih =>
    intro i xs a s hd hx hb h0 h1
    obtain ⟨v, a1, s1, hp, v0, v1, q0, q1⟩ := pick_ok c a s 5 hc h0 (by omega) (by omega)
    obtain ⟨r, hr, hr1, hr2⟩ := ih (i + 1) (xs ++ [v - 1]) a1 s1 (by omega) (by simp [hx]) (fun x hx' => by
      rcases List.mem_append.1 hx' with h | h
      · exact hb x h
      · rw [List.mem_singleton.1 h]; omega) (by omega) (by omega)
    refine ⟨r, ?_, hr1, hr2⟩
    apply Ev.succ
    simp only [spec_l06DrawOk.l1, if_pos (show (i : Int) < n by omega), hp, Option.bind_some, w64 (show (-9223372036854775808) ≤ v - 1 by omega) (by omega), if_pos (show xs.length + ([v - 1] : List Int).length < 17592186044416 by simp; omega), w64 (show (-9223372036854775808) ≤ (i : Int) + 1 by omega) (by omega)]
    exact hr
theorem mok_l0 (c : List Int) (hc : ∀ x ∈ c, 0 ≤ x ∧ x ≤ 255) (n : Int) (hn : 0 ≤ n ∧ n ≤ 3) : ∀ (e : Nat) (W : List Int) (L : List (List Int)) (a s : Int), e ≤ 4 → (VM W L = true ∨ (W = [] ∧ L = [] ∧ 1 ≤ e)) → 0 ≤ W.sum → W.sum + 6 * e ≤ 24 → W.length + e ≤ 4 → L.length + e ≤ 4 → 0 ≤ a → a ≤ 1000 - 10 * e → ∃ r : List Int × List (List Int) × Int × Int, Ev (fun k => spec_l06DrawOk.l0 k n (e : Int) c a s W L) r ∧ VM r.1 r.2.1 = true ∧ r.1.sum ≤ 24 := by
  intro e
  induction e with
  | zero =>
    intro W L a s _ hW _ hs _ _ _ _
    rcases hW with hW | hW
    · refine ⟨(W, L, a, s), ?_, hW, by show W.sum ≤ 24; omega⟩
      apply Ev.succ
      simp only [spec_l06DrawOk.l0, if_neg (show ¬ ((0 : Nat) : Int) > 0 by omega)]
      exact Ev.now _
    · omega
  | succ e ih =>
    intro W L a s he hW h0 hs hl1 hl2 a0 a1
    have q : ((e + 1 : Nat) : Int) - 1 = (e : Int) := by omega
    obtain ⟨r, hr, hr1, hr2⟩ := mok_l1 c hc n ((e + 1 : Nat) : Int) W L hn (by omega) (by rcases hW with h | h; exact .inl h; exact .inr ⟨h.1, h.2.1⟩) (by omega) (by
      intro W' L' a' s' hv k1 k2 k3 k4 k5
      rw [q] at k5 ⊢
      have hp : 0 ≤ W'.sum := by
        have := (sum_le_mem (fun w hw => ((vm_facts hv).2.2.2.2.1 w hw).1)).2
        omega
      exact ih W' L' a' s' (by omega) (.inl hv) hp (by omega) (by omega) (by omega) k4 k5) h0 n.toNat 0 [] a s (by omega) rfl (fun x hx => by simp at hx) a0 (by omega)
    refine ⟨r, ?_, hr1, hr2⟩
    apply Ev.succ
    simp only [spec_l06DrawOk.l0, if_pos (show ((e + 1 : Nat) : Int) > 0 by omega)]
    exact hr
theorem mok_ev (c : List Int) (hc : ∀ x ∈ c, 0 ≤ x ∧ x ≤ 255) : ∃ r : List Int × List (List Int) × Int × Int, Ev (fun k => spec_l06DrawOk.f k c 0 0) r ∧ VM r.1 r.2.1 = true ∧ r.1.sum ≤ 24 := by
  obtain ⟨den, nums, a1, s1, hd, d1, d2, d3, d4, d5, d6⟩ := dok_ev c hc 0 0 (by omega) (by omega)
  obtain ⟨b, a2, s2, hb, b0, b1⟩ := one_ok c a1 s1 2 hc (by omega) (by omega) (by omega)
  unfold spec_l06DrawOk.f
  cases b with
  | true =>
    obtain ⟨o, a3, s3, ho, o1, o2, o3, o4⟩ := dor_ev c hc nums.length d3 a2 s2 (by omega) (by omega)
    obtain ⟨r, hr, r1, r2⟩ := sys_ev o den nums nums.length d3 ⟨d1, d2⟩ rfl o1 o2 d4
    have q : VM r.1 r.2 = true := gm_vm r1 d3 (by omega) (by omega)
    refine ⟨(r.1, r.2, a3, s3), Ev.bind hd ?_, q, by show r.1.sum ≤ 24; omega⟩
    simp only [hb, Option.bind_some, if_true]
    refine Ev.bind ho (Ev.bind hr ?_)
    exact Ev.now _
  | false =>
    obtain ⟨v, a3, s3, hp, v0, v1, q0, q1⟩ := pick_ok c a2 s2 4 hc (by omega) (by omega) (by omega)
    obtain ⟨u, a4, s4, hu, u0, u1, p0, p1⟩ := pick_ok c a3 s3 4 hc (by omega) (by omega) (by omega)
    obtain ⟨m, hm⟩ := Int.eq_ofNat_of_zero_le u0
    obtain ⟨r, hr, r1, r2⟩ := mok_l0 c hc v (by omega) (m + 1) [] [] a4 s4 (by omega) (.inr ⟨rfl, rfl, by omega⟩) (by simp) (by simp; omega) (by simp; omega) (by simp; omega) (by omega) (by omega)
    refine ⟨r, Ev.bind hd ?_, r1, r2⟩
    simp only [hb, Option.bind_some, Bool.false_eq_true, if_false, hp, hu]
    rw [w64 (show (-9223372036854775808) ≤ 1 + u by omega) (by omega), show 1 + u = ((m + 1 : Nat) : Int) by omega]
    exact hr

/-! spec.R8Mixture -/
theorem r8m_ev (c : List Int) (hc : ∀ x ∈ c, 0 ≤ x ∧ x ≤ 255) : ∃ r : List Int × List (List Int), Ev (fun k => spec_R8Mixture.f k c) r ∧ VM r.1 r.2 = true ∧ r.1.sum ≤ 24 := by
  obtain ⟨r, hr, r1, r2⟩ := mok_ev c hc
  refine ⟨(r.1, r.2.1), ?_, r1, r2⟩
  unfold spec_R8Mixture.f
  simp only [spec_l00From.f, Option.bind_some]
  exact Ev.bind hr (Ev.now _)

/-! the law -/
theorem dfl_get {xs : List (List Int)} {i : Nat} : rd_L1 xs (i : Int) = xs.getD i [] := by
  unfold rd_L1; simp
theorem df_rd {xs : List Int} {i : Nat} : rd xs (i : Int) = xs.getD i 0 := by
  unfold rd; simp
theorem running_l0 (ws : List Int) (hn : ws.length ≤ 64) (hps : ∀ i, i ≤ ws.length → 0 ≤ psum ws i ∧ psum ws i ≤ 1000000) : ∀ (d i : Nat), d + i = ws.length → Ev (fun k => impl_running.l0 k ((List.range i).map fun j => psum ws (j + 1)) (psum ws i) ws (ws.length : Int) i) ((List.range ws.length).map fun j => psum ws (j + 1)) := by
  intro d
  induction d with
  | zero =>
    intro i hd
    apply Ev.succ
    simp only [impl_running.l0, if_neg (show ¬ (i : Int) < ws.length by omega)]
    rw [show i = ws.length by omega]
    exact Ev.now _
  | succ d ih =>
    intro i hd
    have hi : i < ws.length := by omega
    have e := psum_succ ws i hi
    have hp := hps (i + 1) (by omega)
    have h := ih (i + 1) (by omega)
    rw [List.range_succ, List.map_append] at h
    apply Ev.succ
    simp only [impl_running.l0, if_pos (show (i : Int) < ws.length by omega), if_pos (show 0 ≤ (i : Int) by omega), df_rd, if_pos (show ((List.range i).map fun j => psum ws (j + 1)).length < 17592186044416 by simp; omega), ← e, w64 (show (-9223372036854775808) ≤ psum ws (i + 1) by omega) (by omega), inc hi (by omega)]
    exact h
theorem index_l0 (xs : List Int) (t : Int) (i0 : Nat) (hn : xs.length ≤ 64) (hi0 : i0 < xs.length) (hj : ∀ j, j < i0 → xs.getD j 0 ≤ t) (hc : t < xs.getD i0 0) : ∀ (d i : Nat), i + d = i0 → Ev (fun k => slices_IndexFunc_int64_int64_impl_DrawFrom_1.l0 k xs (xs.length : Int) i t) (i0 : Int) := by
  intro d
  induction d with
  | zero =>
    intro i hd
    have e : i = i0 := by omega
    subst e
    apply Ev.succ
    simp only [slices_IndexFunc_int64_int64_impl_DrawFrom_1.l0, if_pos (show (i : Int) < xs.length by omega), if_pos (show 0 ≤ (i : Int) by omega), df_rd, impl_DrawFrom_1.f, Option.bind_some, decide_eq_true hc, if_true]
    exact Ev.now _
  | succ d ih =>
    intro i hd
    have hp := hj i (by omega)
    apply Ev.succ
    simp only [slices_IndexFunc_int64_int64_impl_DrawFrom_1.l0, if_pos (show (i : Int) < xs.length by omega), if_pos (show 0 ≤ (i : Int) by omega), df_rd, impl_DrawFrom_1.f, Option.bind_some, decide_eq_false (show ¬ t < xs.getD i 0 by omega), Bool.false_eq_true, if_false, inc (show i < xs.length by omega) (by omega)]
    exact ih (i + 1) (by omega)
theorem vm_ps {ws : List Int} {ls : List (List Int)} (h : VM ws ls = true) : wsum 0 ws = ws.sum ∧ (∀ i, i ≤ ws.length → 0 ≤ psum ws i ∧ psum ws i ≤ 1000000) ∧ ∀ d i, i + d ≤ ws.length → psum ws i ≤ psum ws (i + d) := by
  obtain ⟨f1, f2, f3, f4, f5, f6, f7⟩ := vm_facts h
  have hs : wsum 0 ws = ws.sum := by
    rw [wsum_eq 1000000 ws 0 (fun x hx => by have := f5 x hx; omega) (by omega) (by omega) (by omega)]; omega
  have hmono := psum_mono ws (fun w hw' => (f5 w hw').1)
  have hall := psum_all ws
  have hz := psum_zero ws
  rw [hs] at f7
  refine ⟨hs, ?_, hmono⟩
  intro i hi
  have a := hmono i 0 (by omega)
  have b := hmono (ws.length - i) i (by omega)
  rw [Nat.zero_add, hz] at a
  rw [show i + (ws.length - i) = ws.length by omega, hall] at b
  omega
theorem vm_rows {ws : List Int} {ls : List (List Int)} (h : VM ws ls = true) : ∀ r ∈ ls, r.length ≤ 1048576 := by
  obtain ⟨f1, f2, f3, f4, f5, f6, f7⟩ := vm_facts h
  intro r hr
  obtain ⟨j, hj, rfl⟩ := List.getElem_of_mem hr
  have := (f6 j hj).1
  rw [show ls.getD j [] = ls[j] by simp [List.getD_eq_getElem?_getD, hj]] at this
  omega
theorem tk_draw {ws : List Int} {ls : List (List Int)} (h : VM ws ls = true) (t : Int) (i0 : Nat) (c : i0 < ws.length) (h0 : psum ws i0 ≤ t) (hlt : t < psum ws (i0 + 1)) : Ev (fun k => impl_DrawFrom.f k ws ls t) (ls.getD i0 [], true) := by
  obtain ⟨f1, f2, f3, f4, f5, f6, f7⟩ := vm_facts h
  obtain ⟨hs, hps, hmono⟩ := vm_ps h
  have hr := vm_rows h
  have hz := psum_zero ws
  have hall := psum_all ws
  have p0 := (hps i0 (by omega)).1
  have hle := hmono (ws.length - (i0 + 1)) (i0 + 1) (by omega)
  rw [show i0 + 1 + (ws.length - (i0 + 1)) = ws.length by omega, hall] at hle
  have hsum := hps ws.length (Nat.le_refl _)
  rw [hall] at hsum
  have hm := hr (ls.getD i0 []) (by simp [List.getD_eq_getElem?_getD, show i0 < ls.length by omega])
  unfold impl_DrawFrom.f
  refine Ev.bind ((iVM_ev ws ls (by omega) (by omega) hr).to h) ?_
  simp only [if_true]
  refine Ev.bind (isum_ev ws (by omega)) ?_
  simp only [hs, within_eq, Option.bind_some, w64 (show (-9223372036854775808) ≤ ws.sum - 1 by omega) (by omega), decide_eq_true (show 0 ≤ t ∧ t ≤ ws.sum - 1 by omega), Bool.not_true]
  apply Ev.succ
  simp only [impl_DrawFrom.j0, Bool.false_eq_true, if_false]
  have hrun := running_l0 ws (by omega) hps ws.length 0 (by omega)
  rw [hz] at hrun
  have hget : ∀ j, j < ws.length → ((List.range ws.length).map fun j => psum ws (j + 1)).getD j 0 = psum ws (j + 1) := by
    intro j hj
    simp [List.getD_eq_getElem?_getD, hj]
  have hidx := index_l0 ((List.range ws.length).map fun j => psum ws (j + 1)) t i0 (by simp; omega) (by simp; exact c) (fun j hj => by
    rw [hget j (by omega)]
    have := hmono (i0 - (j + 1)) (j + 1) (by omega)
    rw [show j + 1 + (i0 - (j + 1)) = i0 by omega] at this
    omega) (by rw [hget i0 c]; exact hlt) i0 0 (by omega)
  refine Ev.bind (show Ev (fun k => impl_running.f k ws) _ from hrun) (Ev.bind (show Ev (fun k => slices_IndexFunc_int64_int64_impl_DrawFrom_1.f k _ t) _ from hidx) ?_)
  simp only [if_pos (show 0 ≤ (i0 : Int) by omega), if_pos (show (i0 : Int) < ls.length by omega), dfl_get, clone_eq _ hm, Option.bind_some]
  exact Ev.now _
theorem tk_none {ws : List Int} {ls : List (List Int)} (h : VM ws ls = true) : Ev (fun k => impl_DrawFrom.f k ws ls ws.sum) ([], false) := by
  obtain ⟨f1, f2, f3, f4, f5, f6, f7⟩ := vm_facts h
  obtain ⟨hs, hps, hmono⟩ := vm_ps h
  have hsum := hps ws.length (Nat.le_refl _)
  rw [psum_all ws] at hsum
  unfold impl_DrawFrom.f
  refine Ev.bind ((iVM_ev ws ls (by omega) (by omega) (vm_rows h)).to h) ?_
  simp only [if_true]
  refine Ev.bind (isum_ev ws (by omega)) ?_
  simp only [hs, within_eq, Option.bind_some, w64 (show (-9223372036854775808) ≤ ws.sum - 1 by omega) (by omega), decide_eq_false (show ¬ (0 ≤ ws.sum ∧ ws.sum ≤ ws.sum - 1) by omega), Bool.not_false]
  apply Ev.succ
  simp only [impl_DrawFrom.j0, if_true]
  exact Ev.now _
theorem rsum_l0 (ws : List Int) (hn : ws.length ≤ 64) (hps : ∀ i, i ≤ ws.length → 0 ≤ psum ws i ∧ psum ws i ≤ 1000000) : ∀ (d i : Nat), d + i = ws.length → Ev (fun k => laws_r8Sum.l0 k ws (psum ws i) i) ws.sum := by
  intro d
  induction d with
  | zero =>
    intro i hd
    apply Ev.succ
    simp only [laws_r8Sum.l0, if_neg (show ¬ (i : Int) < ws.length by omega)]
    rw [show i = ws.length by omega, psum_all]
    exact Ev.now _
  | succ d ih =>
    intro i hd
    have hi : i < ws.length := by omega
    have e := psum_succ ws i hi
    have hp := hps (i + 1) (by omega)
    have h := ih (i + 1) (by omega)
    apply Ev.succ
    simp only [laws_r8Sum.l0, if_pos (show (i : Int) < ws.length by omega), if_pos (show 0 ≤ (i : Int) by omega), df_rd, ← e, w64 (show (-9223372036854775808) ≤ psum ws (i + 1) by omega) (by omega), inc hi (by omega)]
    exact h
theorem r8same_l0 (a b : List Int) (hl : a.length = b.length) (hm : a.length ≤ 1000000) : ∀ (d i : Nat), d + i = a.length → Ev (fun k => laws_r8Same.l0 k a b i) (decide (a.drop i = b.drop i)) := by
  intro d
  induction d with
  | zero =>
    intro i hd
    apply Ev.succ
    simp only [laws_r8Same.l0, if_neg (show ¬ (i : Int) < (a.length : Int) by omega)]
    rw [List.drop_of_length_le (by omega), List.drop_of_length_le (by omega)]
    exact Ev.now _
  | succ d ih =>
    intro i hd
    have hi : i < a.length := by omega
    have hi' : i < b.length := by omega
    apply Ev.succ
    simp only [laws_r8Same.l0, if_pos (show (i : Int) < (a.length : Int) by omega), if_pos (show 0 ≤ (i : Int) by omega), if_pos (show (i : Int) < (b.length : Int) by omega), rd_get hi, rd_get hi', w64 (show (-9223372036854775808) ≤ (i : Int) + 1 by omega) (by omega)]
    rw [List.drop_eq_getElem_cons hi, List.drop_eq_getElem_cons hi']
    by_cases h : a[i] = b[i]
    · simp only [if_pos h]
      exact (ih (i + 1) (by omega)).to (by simp only [List.cons.injEq, h, true_and])
    · simp only [if_neg h]
      exact (Ev.now _).to (by simp only [List.cons.injEq, h, false_and, decide_false])
theorem r8same_ev (a b : List Int) (hm : a.length ≤ 1000000) : Ev (fun k => laws_r8Same.f k a b) (decide (a = b)) := by
  unfold laws_r8Same.f
  by_cases h : a.length = b.length
  · simp only [if_pos (show (a.length : Int) = (b.length : Int) by omega)]
    simpa using r8same_l0 a b h hm a.length 0 (by omega)
  · simp only [if_neg (show ¬ (a.length : Int) = (b.length : Int) by omega)]
    exact (Ev.now _).to (by symm; simp; intro e; exact h (by rw [e]))
theorem r8at_ok {c : List Int} (hc : ∀ x ∈ c, 0 ≤ x ∧ x ≤ 255) {i n : Int} (h0 : 0 ≤ i) (hn : 0 ≤ n ∧ n ≤ 1000) : ∃ v, laws_r8At.f c i n = some v ∧ 0 ≤ v ∧ (1 ≤ n → v < n) ∧ v ≤ 1000 := by
  unfold laws_r8At.f
  by_cases c1 : n ≤ 1
  · rw [if_pos c1]; exact ⟨0, rfl, by omega, fun _ => by omega, by omega⟩
  · rw [if_neg c1]
    by_cases c2 : i ≥ (c.length : Int)
    · rw [if_pos c2]; exact ⟨0, rfl, by omega, fun _ => by omega, by omega⟩
    · have hb := rd_byte hc i
      have h1 := Int.tmod_nonneg n hb.1
      have h2 := Int.tmod_lt_of_pos (rd c i) (show 0 < n by omega)
      rw [if_neg c2, if_pos h0, if_pos (show i < (c.length : Int) by omega), if_neg (show ¬ n = 0 by omega), w64 (by omega) (by omega)]
      exact ⟨_, rfl, h1, fun _ => h2, by omega⟩
/-- What the tickets before place j of list i have counted. -/
def cnts (ws : List Int) (i : Nat) (j : Int) : List Int := ws.take i ++ j :: List.replicate (ws.length - i - 1) 0
theorem cnts_length {ws : List Int} {i : Nat} (j : Int) (h : i < ws.length) : (cnts ws i j).length = ws.length := by
  simp only [cnts, List.length_append, List.length_take, List.length_cons, List.length_replicate]; omega
theorem cnts_rd {ws : List Int} {i : Nat} (j : Int) (h : i < ws.length) : rd (cnts ws i j) (i : Int) = j := by
  rw [rd_get (by rw [cnts_length j h]; exact h)]
  simp only [cnts]
  rw [List.getElem_append_right (by simp; omega)]
  simp only [List.length_take, show min i ws.length = i by omega, Nat.sub_self, List.getElem_cons_zero]
theorem cnts_set {ws : List Int} {i : Nat} (j v : Int) (h : i < ws.length) : (cnts ws i j).set i v = cnts ws i v := by
  simp only [cnts]
  rw [List.set_append_right _ _ (by simp; omega)]
  simp only [List.length_take, show min i ws.length = i by omega, Nat.sub_self, List.set_cons_zero]
theorem cnts_next {ws : List Int} {i : Nat} (h : i + 1 < ws.length) : cnts ws i (ws.getD i 0) = cnts ws (i + 1) 0 := by
  have e : ws.length - i - 1 = ws.length - (i + 1) - 1 + 1 := by omega
  simp only [cnts, e, List.replicate_succ]
  rw [List.take_succ_eq_append_getElem (show i < ws.length by omega), List.append_assoc]
  simp [List.getD_eq_getElem?_getD, show i < ws.length by omega]
theorem cnts_last {ws : List Int} {i : Nat} (h : i + 1 = ws.length) : cnts ws i (ws.getD i 0) = ws := by
  have e : ws.length - i - 1 = 0 := by omega
  have q := List.take_succ_eq_append_getElem (show i < ws.length by omega)
  rw [h, List.take_length] at q
  simp only [cnts, e, List.replicate_zero]
  rw [show ws.getD i 0 = ws[i] by simp [List.getD_eq_getElem?_getD, show i < ws.length by omega]]
  exact q.symm
theorem cnts_first {ws : List Int} (h : 1 ≤ ws.length) : List.replicate ws.length (0 : Int) = cnts ws 0 0 := by
  have e : ws.length = ws.length - 0 - 1 + 1 := by omega
  simp only [cnts, List.take_zero, List.nil_append]
  rw [← List.replicate_succ, ← e]
/-- The weight of the pair among the lists before i, if there are numbers. -/
def cnd (n : Nat) (ls : List (List Int)) (p a q b : Int) (i : Nat) : Bool := decide (0 < n) && (decide (rd (ls.getD i []) p = a) && decide (rd (ls.getD i []) q = b))
def pb (n : Nat) (ws : List Int) (ls : List (List Int)) (p a q b : Int) : Nat → Int
  | 0 => 0
  | i + 1 => pb n ws ls p a q b i + if cnd n ls p a q b i = true then ws.getD i 0 else 0
theorem pb_bnd {ws : List Int} {ls : List (List Int)} (h : VM ws ls = true) (n : Nat) (p a q b : Int) : ∀ i, i ≤ ws.length → 0 ≤ pb n ws ls p a q b i ∧ pb n ws ls p a q b i ≤ psum ws i := by
  intro i
  induction i with
  | zero => intro _; simp [pb, psum_zero]
  | succ i ih =>
    intro hi
    have := ih (by omega)
    have e := psum_succ ws i (by omega)
    have hw := ((vm_facts h).2.2.2.2.1 (ws.getD i 0) (getD_mem (by omega))).1
    simp only [pb]
    split <;> omega
theorem pb_PW {ws : List Int} {ls : List (List Int)} (h : VM ws ls = true) (n : Nat) (hn : 0 < n) (p a q b : Int) : ∀ d m, d + m = ws.length → PW ws ls p a q b d m (pb n ws ls p a q b m) = pb n ws ls p a q b ws.length := by
  intro d
  induction d with
  | zero => intro m hm; rw [show m = ws.length by omega]; rfl
  | succ d ih =>
    intro m hm
    have hb := pb_bnd h n p a q b m (by omega)
    have hb2 := pb_bnd h n p a q b (m + 1) (by omega)
    have hp := (vm_ps h).2.1 (m + 1) (by omega)
    have st : pwStep ws ls p a q b (pb n ws ls p a q b m) m = pb n ws ls p a q b (m + 1) := by
      simp only [pb, cnd] at hb2 ⊢
      unfold pwStep
      by_cases c1 : rd (ls.getD m []) p = a
      · by_cases c2 : rd (ls.getD m []) q = b
        · simp only [c1, c2, hn, decide_true, Bool.and_self, if_true, and_self] at hb2 ⊢
          exact w64 (by omega) (by omega)
        · simp only [c1, c2, decide_true, decide_false, Bool.and_false, Bool.false_eq_true, if_false, and_false, Int.add_zero]
      · simp only [c1, decide_false, Bool.false_and, Bool.and_false, Bool.false_eq_true, if_false, false_and, Int.add_zero]
    show PW ws ls p a q b d (m + 1) (pwStep ws ls p a q b (pb n ws ls p a q b m) m) = _
    rw [st]
    exact ih (m + 1) (by omega)
theorem vm_other {ws : List Int} {ls : List (List Int)} (h : VM ws ls = true) {i j : Nat} (hi : i < ls.length) (hj : j < ls.length) (hne : i ≠ j) : ls.getD i [] ≠ ls.getD j [] := by
  simp only [VM, mxRow, Bool.and_eq_true, decide_eq_true_eq, List.all_eq_true, List.mem_range] at h
  obtain ⟨_, _, _, _, h5, _⟩ := h
  rcases Nat.lt_or_gt_of_ne hne with c | c
  · intro e
    have := (h5 j hj).2.2 i c
    simp only [Bool.not_eq_true', decide_eq_false_iff_not] at this
    exact this e
  · intro e
    have := (h5 i hi).2.2 j c
    simp only [Bool.not_eq_true', decide_eq_false_iff_not] at this
    exact this e.symm
theorem tk_l1b {ws : List Int} {ls : List (List Int)} (h : VM ws ls = true) (T : Int) (C : List Int) (n p q a b B t : Int) (i : Nat) (hi : i < ls.length) {s : Bool} (hs : Ev (fun k => laws_FnTickets.l1 k T C n p q a b B t (ls.getD i []) (ls.length : Int) ws ls) s) :
    ∀ (d m : Nat), d + m = ls.length → i < m → Ev (fun k => laws_FnTickets.l1 k T C n p q a b B t (ls.getD i []) (m : Int) ws ls) s := by
  obtain ⟨f1, f2, f3, f4, f5, f6, f7⟩ := vm_facts h
  have hl := f6 i hi
  intro d
  induction d with
  | zero => intro m hm _; rw [show m = ls.length by omega]; exact hs
  | succ d ih =>
    intro m hm hlt
    have hml : m < ls.length := by omega
    apply Ev.succ
    simp only [laws_FnTickets.l1, if_pos (show (m : Int) < (ls.length : Int) by omega), if_pos (show 0 ≤ (m : Int) by omega), dfl_get]
    refine Ev.bind (r8same_ev _ _ (by omega)) ?_
    simp only [decide_eq_false (vm_other h hi hml (by omega)), Bool.false_eq_true, if_false, inc hml (by omega)]
    exact ih (m + 1) (by omega) (by omega)
theorem tk_l1a {ws : List Int} {ls : List (List Int)} (h : VM ws ls = true) (T : Int) (j n p q a b B t : Int) (i : Nat) (hi : i < ls.length) (hj : 0 ≤ j ∧ j ≤ 1000000) {s : Bool} (hs : Ev (fun k => laws_FnTickets.l1 k T (cnts ws i (j + 1)) n p q a b B t (ls.getD i []) (ls.length : Int) ws ls) s) :
    ∀ (d m : Nat), d + m = i → Ev (fun k => laws_FnTickets.l1 k T (cnts ws i j) n p q a b B t (ls.getD i []) (m : Int) ws ls) s := by
  obtain ⟨f1, f2, f3, f4, f5, f6, f7⟩ := vm_facts h
  have hl := f6 i hi
  have hiw : i < ws.length := by omega
  intro d
  induction d with
  | zero =>
    intro m hm
    have e : m = i := by omega
    subst e
    apply Ev.succ
    simp only [laws_FnTickets.l1, if_pos (show (m : Int) < (ls.length : Int) by omega), if_pos (show 0 ≤ (m : Int) by omega), dfl_get]
    refine Ev.bind (r8same_ev _ _ (by omega)) ?_
    simp only [decide_true, if_true, cnts_length j hiw, if_pos (show (m : Int) < (ws.length : Int) by omega), cnts_rd j hiw, Int.toNat_natCast, w64 (show (-9223372036854775808) ≤ j + 1 by omega) (by omega), cnts_set j (j + 1) hiw, inc hi (by omega)]
    exact tk_l1b h T (cnts ws m (j + 1)) n p q a b B t m hi hs (ls.length - (m + 1)) (m + 1) (by omega) (by omega)
  | succ d ih =>
    intro m hm
    have hml : m < ls.length := by omega
    apply Ev.succ
    simp only [laws_FnTickets.l1, if_pos (show (m : Int) < (ls.length : Int) by omega), if_pos (show 0 ≤ (m : Int) by omega), dfl_get]
    refine Ev.bind (r8same_ev _ _ (by omega)) ?_
    simp only [decide_eq_false (vm_other h hi hml (by omega)), Bool.false_eq_true, if_false, inc hml (by omega)]
    exact ih (m + 1) (by omega)
theorem tk_round {ws : List Int} {ls : List (List Int)} (h : VM ws ls = true) (hT : ws.sum ≤ 24) (p q a b : Int) (hp : 0 ≤ p ∧ (1 ≤ (ls.headD []).length → p < (ls.headD []).length)) (hq : 0 ≤ q ∧ (1 ≤ (ls.headD []).length → q < (ls.headD []).length)) (i : Nat) (hi : i < ls.length) (j : Int) (hj : 0 ≤ j) (hjw : j < ws.getD i 0) {s : Bool}
    (hs : Ev (fun k => laws_FnTickets.l0 k ws.sum (cnts ws i (j + 1)) ((ls.headD []).length : Int) p q a b (pb (ls.headD []).length ws ls p a q b i + (j + 1) * (if cnd (ls.headD []).length ls p a q b i = true then 1 else 0)) (psum ws i + (j + 1)) ws ls) s) :
    Ev (fun k => laws_FnTickets.l0 k ws.sum (cnts ws i j) ((ls.headD []).length : Int) p q a b (pb (ls.headD []).length ws ls p a q b i + j * (if cnd (ls.headD []).length ls p a q b i = true then 1 else 0)) (psum ws i + j) ws ls) s := by
  obtain ⟨f1, f2, f3, f4, f5, f6, f7⟩ := vm_facts h
  obtain ⟨e1, hps, hmono⟩ := vm_ps h
  have hiw : i < ws.length := by omega
  have e := psum_succ ws i hiw
  have hp1 := hps i (by omega)
  have hp2 := hmono (ws.length - (i + 1)) (i + 1) (by omega)
  rw [show i + 1 + (ws.length - (i + 1)) = ws.length by omega, psum_all] at hp2
  have hb := pb_bnd h (ls.headD []).length p a q b i (by omega)
  have hl := (f6 i hi).1
  apply Ev.succ
  simp only [laws_FnTickets.l0, if_pos (show psum ws i + j < ws.sum by omega)]
  refine Ev.bind (tk_draw h (psum ws i + j) i hiw (by omega) (by omega)) ?_
  simp only [if_true, hl, bne_self_eq_false]
  apply Ev.succ
  simp only [laws_FnTickets.j2, Bool.false_eq_true, if_false]
  refine tk_l1a h ws.sum j _ p q a b _ _ i hi ⟨hj, by omega⟩ ?_ i 0 (by omega)
  have ew : wrap64 (psum ws i + j + 1) = psum ws i + (j + 1) := by rw [w64 (by omega) (by omega)]; omega
  apply Ev.succ
  simp only [laws_FnTickets.l1, if_neg (show ¬ (ls.length : Int) < (ls.length : Int) by omega), hl, ew]
  by_cases c0 : 0 < (ls.headD []).length
  · have c1 := hp.2 c0
    have c2 := hq.2 c0
    simp only [if_pos (show ((ls.headD []).length : Int) > 0 by omega), if_pos hp.1, if_pos c1, if_pos hq.1, if_pos c2]
    by_cases d1 : rd (ls.getD i []) p = a
    · by_cases d2 : rd (ls.getD i []) q = b
      · have hc : cnd (ls.headD []).length ls p a q b i = true := by unfold cnd; rw [decide_eq_true c0, decide_eq_true d1, decide_eq_true d2]; rfl
        simp only [hc, if_true, Int.mul_one] at hs ⊢
        have ew2 : wrap64 (pb (ls.headD []).length ws ls p a q b i + j + 1) = pb (ls.headD []).length ws ls p a q b i + (j + 1) := by rw [w64 (by omega) (by omega)]; omega
        simp only [if_pos d1, if_pos d2, ew2]
        exact hs
      · have hc : cnd (ls.headD []).length ls p a q b i = false := by unfold cnd; rw [decide_eq_false d2, Bool.and_false, Bool.and_false]
        simp only [hc, Bool.false_eq_true, if_false, Int.mul_zero, Int.add_zero] at hs ⊢
        simp only [if_pos d1, if_neg d2]
        exact hs
    · have hc : cnd (ls.headD []).length ls p a q b i = false := by unfold cnd; rw [decide_eq_false d1, Bool.false_and, Bool.and_false]
      simp only [hc, Bool.false_eq_true, if_false, Int.mul_zero, Int.add_zero] at hs ⊢
      simp only [if_neg d1]
      exact hs
  · have hc : cnd (ls.headD []).length ls p a q b i = false := by unfold cnd; rw [decide_eq_false c0, Bool.false_and]
    simp only [hc, Bool.false_eq_true, if_false, Int.mul_zero, Int.add_zero] at hs ⊢
    simp only [if_neg (show ¬ ((ls.headD []).length : Int) > 0 by omega)]
    exact hs
theorem tk_block {ws : List Int} {ls : List (List Int)} (h : VM ws ls = true) (hT : ws.sum ≤ 24) (p q a b : Int) (hp : 0 ≤ p ∧ (1 ≤ (ls.headD []).length → p < (ls.headD []).length)) (hq : 0 ≤ q ∧ (1 ≤ (ls.headD []).length → q < (ls.headD []).length)) (i : Nat) (hi : i < ls.length) {s : Bool}
    (hs : Ev (fun k => laws_FnTickets.l0 k ws.sum (cnts ws i (ws.getD i 0)) ((ls.headD []).length : Int) p q a b (pb (ls.headD []).length ws ls p a q b (i + 1)) (psum ws (i + 1)) ws ls) s) :
    ∀ (d : Nat) (j : Int), d + j = ws.getD i 0 → 0 ≤ j → Ev (fun k => laws_FnTickets.l0 k ws.sum (cnts ws i j) ((ls.headD []).length : Int) p q a b (pb (ls.headD []).length ws ls p a q b i + j * (if cnd (ls.headD []).length ls p a q b i = true then 1 else 0)) (psum ws i + j) ws ls) s := by
  intro d
  induction d with
  | zero =>
    intro j hd hj
    have e : j = ws.getD i 0 := by omega
    subst e
    rw [psum_succ ws i (by have := (vm_facts h).2.2.1; omega)] at hs
    have q : pb (ls.headD []).length ws ls p a q b i + ws.getD i 0 * (if cnd (ls.headD []).length ls p a q b i = true then 1 else 0) = pb (ls.headD []).length ws ls p a q b (i + 1) := by
      simp only [pb]
      split <;> simp
    rw [q]
    exact hs
  | succ d ih =>
    intro j hd hj
    exact tk_round h hT p q a b hp hq i hi j hj (by omega) (ih (j + 1) (by omega) (by omega))
theorem FnTickets : laws_FnTickets.Pure := by
  intro c m hc1 _ hc2 hm1 _ hm2
  apply Ev.rounds
  have hc : ∀ x ∈ c, 0 ≤ x ∧ x ≤ 255 := fun x hx => wfByte (hc2 x hx)
  have hm : ∀ x ∈ m, 0 ≤ x ∧ x ≤ 255 := fun x hx => wfByte (hm2 x hx)
  unfold laws_FnTickets.f laws_r8Long.f
  by_cases c0 : (c.length : Int) > 48 ∨ (m.length : Int) > 48
  · rcases c0 with c0 | c0
    · simp only [if_pos c0, Option.bind_some, if_true]
      exact Ev.now _
    · by_cases c1 : (c.length : Int) > 48
      · simp only [if_pos c1, Option.bind_some, if_true]
        exact Ev.now _
      · simp only [if_neg c1, decide_eq_true c0, Option.bind_some, if_true]
        exact Ev.now _
  · simp only [if_neg (show ¬ (c.length : Int) > 48 by omega), decide_eq_false (show ¬ (m.length : Int) > 48 by omega), Option.bind_some, Bool.false_eq_true, if_false]
    obtain ⟨⟨ws, ls⟩, hr, hv, hT⟩ := r8m_ev c hc
    simp only at hv hT
    obtain ⟨f1, f2, f3, f4, f5, f6, f7⟩ := vm_facts hv
    obtain ⟨e1, hps, hmono⟩ := vm_ps hv
    have hrs : Ev (fun k => laws_r8Sum.f k ws) ws.sum := by
      have := rsum_l0 ws (by omega) hps ws.length 0 (by omega)
      rw [psum_zero] at this
      exact this
    have hd0 : rd_L1 ls 0 = ls.headD [] := by unfold rd_L1; cases ls <;> rfl
    refine Ev.bind hr (Ev.bind hrs (Ev.bind ((iVM_ev ws ls (by omega) (by omega) (vm_rows hv)).to hv) ?_))
    simp only [if_true]
    apply Ev.succ
    obtain ⟨p, hp, p0, p1, p2⟩ := r8at_ok hm (i := 0) (n := ((ls.headD []).length : Int)) (by omega) (by omega)
    obtain ⟨q, hq, q0, q1, q2⟩ := r8at_ok hm (i := 1) (n := ((ls.headD []).length : Int)) (by omega) (by omega)
    obtain ⟨a, ha, a0, a1, a2⟩ := r8at_ok hm (i := 2) (n := 6) (by omega) (by omega)
    obtain ⟨b, hb, b0, b1, b2⟩ := r8at_ok hm (i := 3) (n := 6) (by omega) (by omega)
    simp only [laws_FnTickets.j0, decide_eq_false (show ¬ ws.sum > 400 by omega), Bool.false_eq_true, if_false, if_pos (show 0 ≤ (ls.length : Int) by omega), Int.toNat_natCast, if_pos (show ls.length ≤ 35184372088832 by omega), if_pos (show 0 < (ls.length : Int) by omega), hd0, hp, hq, ha, hb, Option.bind_some]
    rw [← f3, cnts_first (show 1 ≤ ws.length by omega)]
    generalize wrap64 (a - 1) = a'
    generalize wrap64 (b - 1) = b'
    have hend : Ev (fun k => laws_FnTickets.l0 k ws.sum ws ((ls.headD []).length : Int) p q a' b' (pb (ls.headD []).length ws ls p a' q b' ws.length) ws.sum ws ls) true := by
      apply Ev.succ
      simp only [laws_FnTickets.l0, if_neg (show ¬ ws.sum < ws.sum by omega)]
      refine Ev.bind (tk_none hv) (Ev.bind (iPW_ev ws ls p a' q b' (by omega) (by omega) (vm_rows hv)) ?_)
      simp only [Bool.false_eq_true, if_false]
      have hsame : Ev (fun k => (laws_r8Same.f k ws ws).bind fun t => some t) true := Ev.bind ((r8same_ev ws ws (by omega)).to (by simp)) (Ev.now _)
      by_cases cn : 0 < (ls.headD []).length
      · have w1 := p1 (by omega)
        have w2 := q1 (by omega)
        have hS : SPW ws ls p a' q b' = (pb (ls.headD []).length ws ls p a' q b' ws.length, true) := by
          unfold SPW
          rw [hv, decide_eq_true (show 0 ≤ p ∧ p ≤ ((ls.headD []).length : Int) - 1 by omega), decide_eq_true (show 0 ≤ q ∧ q ≤ ((ls.headD []).length : Int) - 1 by omega)]
          have := pb_PW hv (ls.headD []).length cn p a' q b' ws.length 0 (by omega)
          rw [f3] at this
          simp only [Bool.and_self, if_true, ← f3] at this ⊢
          exact congrArg (·, true) this
        rw [hS]
        simp only [decide_eq_true (show ((ls.headD []).length : Int) > 0 by omega), beq_self_eq_true, if_true, if_neg (show ¬ ((ls.headD []).length : Int) = 0 by omega)]
        exact hsame
      · have hS : SPW ws ls p a' q b' = (0, false) := by
          unfold SPW
          rw [decide_eq_false (show ¬ (0 ≤ p ∧ p ≤ ((ls.headD []).length : Int) - 1) by omega)]
          simp
        rw [hS]
        simp only [decide_eq_false (show ¬ ((ls.headD []).length : Int) > 0 by omega), beq_self_eq_true, if_true, if_pos (show ((ls.headD []).length : Int) = 0 by omega)]
        exact hsame
    have key : ∀ (d i : Nat), d + 1 + i = ws.length → Ev (fun k => laws_FnTickets.l0 k ws.sum (cnts ws i 0) ((ls.headD []).length : Int) p q a' b' (pb (ls.headD []).length ws ls p a' q b' i) (psum ws i) ws ls) true := by
      intro d
      induction d with
      | zero =>
        intro i hi
        have hw := f5 (ws.getD i 0) (getD_mem (by omega))
        have := tk_block hv hT p q a' b' ⟨p0, fun h => p1 (by omega)⟩ ⟨q0, fun h => q1 (by omega)⟩ i (by omega) (s := true) (by rw [cnts_last (by omega), show i + 1 = ws.length by omega, psum_all]; exact hend) (ws.getD i 0).toNat 0 (by omega) (by omega)
        simpa using this
      | succ d ih =>
        intro i hi
        have hw := f5 (ws.getD i 0) (getD_mem (by omega))
        have := tk_block hv hT p q a' b' ⟨p0, fun h => p1 (by omega)⟩ ⟨q0, fun h => q1 (by omega)⟩ i (by omega) (s := true) (by rw [cnts_next (by omega)]; exact ih (i + 1) (by omega)) (ws.getD i 0).toNat 0 (by omega) (by omega)
        simpa using this
    have := key (ws.length - 1) 0 (by omega)
    rw [psum_zero] at this
    exact this


end Go.Proofs.Ytlhpejabdmejbaa.Pure
