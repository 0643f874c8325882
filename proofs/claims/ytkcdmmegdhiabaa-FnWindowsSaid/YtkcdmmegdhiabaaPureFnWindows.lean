/- Proved: the pure half of the law FnWindows: the printed functions answer true, for every input. No condition. -/
import Derived.Test.YtkcdmmegdhiabaaPFnWindowsx6
import Derived.Test.YtkcdmmegdhiabaaBase
import Derived.Test.YtkcdmmegdhiabaaLists
import Derived.Test.YtkcdmmegdhiabaaTime
import Derived.Test.YtkcdmmegdhiabaaGreat
import Derived.Test.YtkcdmmegdhiabaaSource
import Derived.Test.YtkcdmmegdhiabaaCounts
import Derived.Test.YtkcdmmegdhiabaaCeil
import Derived.Test.YtkcdmmegdhiabaaWindows
import Derived.Test.YtkcdmmegdhiabaaGreat2
namespace Go.Proofs.Ytkcdmmegdhiabaa.Pure
open Go.RowKit Go.Proofs.Ytkcdmmegdhiabaa.PFnWindows Go.Proofs.YtkcdmmegdhiabaaW.PrintWords Go.Proofs.YtkcdmmegdhiabaaW.PrintLast Go.Proofs.YtkcdmmegdhiabaaW.PrintMore Go.Proofs.Ytkcdmmegdhiabaa.Base
set_option linter.unusedVariables false
set_option linter.unusedSimpArgs false

/-! impl.sum -/
theorem isum_l0 (l : List Int) (hl : l.length ≤ 9223372036854775806) : ∀ (d i : Nat) (acc : Int), d + i = l.length → Ev (fun k => impl_sum.l0 k acc l (l.length : Int) i) (wsum acc (l.drop i)) := by
  intro d
  induction d with
  | zero =>
    intro i acc hd
    apply Ev.succ
    simp only [impl_sum.l0, if_neg (show ¬ (i : Int) < (l.length : Int) by omega)]
    rw [List.drop_of_length_le (by omega)]
    exact Ev.now _
  | succ d ih =>
    intro i acc hd
    have hi : i < l.length := by omega
    apply Ev.succ
    simp only [impl_sum.l0, if_pos (show (i : Int) < (l.length : Int) by omega), if_pos (show 0 ≤ (i : Int) by omega), rd_get hi, w64 (show (-9223372036854775808) ≤ (i : Int) + 1 by omega) (by omega)]
    rw [List.drop_eq_getElem_cons hi]
    exact ih (i + 1) _ (by omega)
theorem isum_ev (l : List Int) (hl : l.length ≤ 9223372036854775806) : Ev (fun k => impl_sum.f k l) (wsum 0 l) := by
  have := isum_l0 l hl l.length 0 0 (by omega)
  simpa [impl_sum.f] using this

/-! impl.within -/
theorem within_eq (a b c : Int) : impl_within.f a b c = some (decide (b ≤ a ∧ a ≤ c)) := by
  unfold impl_within.f
  by_cases h : b ≤ a
  · rw [if_pos h]; simp [h]
  · rw [if_neg h]; simp [h]

/-! impl.areWithin -/
theorem aw_l0 (l : List Int) (a b : Int) (hl : l.length ≤ 9223372036854775806) : ∀ (d i : Nat), d + i = l.length → ∃ r : Int, Ev (fun k => slices_IndexFunc_int64_int64_impl_areWithin_1.l0 k l (l.length : Int) i a b) r ∧ (decide (r ≥ 0) = !(l.drop i).all fun n => decide (a ≤ n ∧ n ≤ b)) := by
  intro d
  induction d with
  | zero =>
    intro i hd
    refine ⟨-1, ?_, ?_⟩
    · apply Ev.succ
      simp only [slices_IndexFunc_int64_int64_impl_areWithin_1.l0, if_neg (show ¬ (i : Int) < (l.length : Int) by omega)]
      exact Ev.now _
    · rw [List.drop_of_length_le (by omega)]; rfl
  | succ d ih =>
    intro i hd
    have hi : i < l.length := by omega
    obtain ⟨r, hr, he⟩ := ih (i + 1) (by omega)
    by_cases h : a ≤ l[i] ∧ l[i] ≤ b
    · refine ⟨r, ?_, ?_⟩
      · apply Ev.succ
        simp only [slices_IndexFunc_int64_int64_impl_areWithin_1.l0, if_pos (show (i : Int) < (l.length : Int) by omega), if_pos (show 0 ≤ (i : Int) by omega), rd_get hi, impl_areWithin_1.f, within_eq, decide_eq_true h, Option.bind_some, w64 (show (-9223372036854775808) ≤ (i : Int) + 1 by omega) (by omega)]
        simpa using hr
      · rw [he, List.drop_eq_getElem_cons hi, List.all_cons, decide_eq_true h, Bool.true_and]
    · refine ⟨i, ?_, ?_⟩
      · apply Ev.succ
        simp only [slices_IndexFunc_int64_int64_impl_areWithin_1.l0, if_pos (show (i : Int) < (l.length : Int) by omega), if_pos (show 0 ≤ (i : Int) by omega), rd_get hi, impl_areWithin_1.f, within_eq, decide_eq_false h, Option.bind_some]
        simpa using Ev.now _
      · rw [List.drop_eq_getElem_cons hi, List.all_cons, decide_eq_false h, Bool.false_and]; simp
theorem areWithin_ev (l : List Int) (a b : Int) (hl : l.length ≤ 9223372036854775806) : Ev (fun k => impl_areWithin.f k l a b) (l.all fun n => decide (a ≤ n ∧ n ≤ b)) := by
  obtain ⟨r, hr, he⟩ := aw_l0 l a b hl l.length 0 (by omega)
  unfold impl_areWithin.f
  simp only [slices_ContainsFunc_int64_int64_impl_areWithin_1.f, slices_IndexFunc_int64_int64_impl_areWithin_1.f]
  refine Ev.bind (Ev.bind hr (Ev.now _)) ?_
  refine (Ev.now _).to ?_
  rw [he, List.drop_zero, Bool.not_not]

/-! impl.ValidDemands -/
theorem foldl_lt (l : List Int) : ∀ (s m : Int), 0 < s → s ≤ m → (∀ n ∈ l, 1 ≤ n ∧ n ≤ 40) → l.foldl (fun s d => s * (d + 1)) s ≤ m * 41 ^ l.length := by
  induction l with
  | nil => intro s m _ h _; simpa using h
  | cons d l ih =>
    intro s m hs hm h
    have hd := h d List.mem_cons_self
    have h1 : s * 1 ≤ s * (d + 1) := Int.mul_le_mul_of_nonneg_left (by omega) (by omega)
    have h2 : s * (d + 1) ≤ s * 41 := Int.mul_le_mul_of_nonneg_left (by omega) (by omega)
    have := ih (s * (d + 1)) (m * 41) (by omega) (by omega) (fun n hn => h n (List.mem_cons_of_mem _ hn))
    rw [List.foldl_cons, List.length_cons, Int.pow_succ', ← Int.mul_assoc]
    exact this
theorem ivd_l0 (l : List Int) (hl : l.length ≤ 6) (ha : ∀ n ∈ l, 1 ≤ n ∧ n ≤ 40) : ∀ (d i : Nat) (s : Int), d + i = l.length → 1 ≤ s → s ≤ 41 ^ i → Ev (fun k => impl_ValidDemands.l0 k s l (l.length : Int) i) (le5 ((l.drop i).foldl (fun s d => s * (d + 1)) s)) := by
  intro d
  induction d with
  | zero =>
    intro i s hd h1 h2
    apply Ev.succ
    simp only [impl_ValidDemands.l0, if_neg (show ¬ (i : Int) < (l.length : Int) by omega)]
    rw [List.drop_of_length_le (by omega)]
    exact (Ev.now _).to rfl
  | succ d ih =>
    intro i s hd h1 h2
    have hi : i < l.length := by omega
    have hx := ha l[i] (List.getElem_mem hi)
    have p1 : s * 2 ≤ s * (l[i] + 1) := Int.mul_le_mul_of_nonneg_left (by omega) (by omega)
    have p2 : s * (l[i] + 1) ≤ s * 41 := Int.mul_le_mul_of_nonneg_left (by omega) (by omega)
    have p3 : s * 41 ≤ 41 ^ i * 41 := Int.mul_le_mul_of_nonneg_right h2 (by omega)
    have p4 : (41 : Int) ^ i * 41 ≤ 41 ^ 6 := by
      rw [← Int.pow_succ]
      have hle : i + 1 ≤ 6 := by omega
      have : ∀ j : Fin 7, (41 : Int) ^ j.val ≤ 41 ^ 6 := by decide
      exact this ⟨i + 1, by omega⟩
    have p5 : (41 : Int) ^ 6 = 4750104241 := by decide
    apply Ev.succ
    simp only [impl_ValidDemands.l0, if_pos (show (i : Int) < (l.length : Int) by omega), if_pos (show 0 ≤ (i : Int) by omega), rd_get hi, w64 (show (-9223372036854775808) ≤ (i : Int) + 1 by omega) (by omega), w64 (show (-9223372036854775808) ≤ l[i] + 1 by omega) (by omega), w64 (show (-9223372036854775808) ≤ s * (l[i] + 1) by omega) (by omega)]
    rw [List.drop_eq_getElem_cons hi, List.foldl_cons]
    exact ih (i + 1) _ (by omega) (by omega) (by rw [Int.pow_succ]; omega)
theorem iVD_ev (l : List Int) (hl : l.length ≤ 9223372036854775806) : Ev (fun k => impl_ValidDemands.f k l) (VD l) := by
  simp only [impl_ValidDemands.f, impl_size_int64.f, Option.bind_some, within_eq, VD]
  by_cases h : 1 ≤ (l.length : Int) ∧ (l.length : Int) ≤ 6
  · simp only [decide_eq_true h, if_true, Bool.true_and]
    refine Ev.bind (areWithin_ev l 1 40 hl) ?_
    cases ha : (l.all fun n => decide (1 ≤ n ∧ n ≤ 40)) with
    | true =>
      have ha' : ∀ n ∈ l, 1 ≤ n ∧ n ≤ 40 := by simpa using ha
      apply Ev.succ
      simp only [impl_ValidDemands.j0, Bool.not_true, if_neg (show ¬ (false = true) by decide), Bool.true_and]
      have := ivd_l0 l (by omega) ha' l.length 0 1 (by omega) (by omega) (by decide)
      simpa using this
    | false =>
      apply Ev.succ
      simp only [impl_ValidDemands.j0, Bool.not_false, if_true, Bool.false_and]
      exact Ev.now _
  · simp only [decide_eq_false h, if_neg (show ¬ (false = true) by decide), Bool.false_and]
    apply Ev.succ
    simp only [impl_ValidDemands.j0, if_true]
    exact Ev.now _

/-! slices.Equal   int64,int64  -/
theorem sleq_l0 (a b : List Int) (hl : a.length = b.length) (hm : a.length ≤ 9223372036854775806) : ∀ (d i : Nat), d + i = a.length → Ev (fun k => slices_Equal_int64_int64.l0 k a b (a.length : Int) i) (decide (a.drop i = b.drop i)) := by
  intro d
  induction d with
  | zero =>
    intro i hd
    apply Ev.succ
    simp only [slices_Equal_int64_int64.l0, if_neg (show ¬ (i : Int) < (a.length : Int) by omega)]
    rw [List.drop_of_length_le (by omega), List.drop_of_length_le (by omega)]
    exact Ev.now _
  | succ d ih =>
    intro i hd
    have hi : i < a.length := by omega
    have hi' : i < b.length := by omega
    apply Ev.succ
    simp only [slices_Equal_int64_int64.l0, if_pos (show (i : Int) < (a.length : Int) by omega), if_pos (show 0 ≤ (i : Int) by omega), if_pos (show (i : Int) < (b.length : Int) by omega), rd_get hi, rd_get hi', w64 (show (-9223372036854775808) ≤ (i : Int) + 1 by omega) (by omega)]
    rw [List.drop_eq_getElem_cons hi, List.drop_eq_getElem_cons hi']
    by_cases h : a[i] = b[i]
    · simp only [if_pos h]
      exact (ih (i + 1) (by omega)).to (by simp only [List.cons.injEq, h, true_and])
    · simp only [if_neg h]
      exact (Ev.now _).to (by simp only [List.cons.injEq, h, false_and, decide_false])
theorem slEqual_ev (a b : List Int) (hm : a.length ≤ 9223372036854775806) : Ev (fun k => slices_Equal_int64_int64.f k a b) (decide (a = b)) := by
  unfold slices_Equal_int64_int64.f
  by_cases h : a.length = b.length
  · simp only [if_pos (show (a.length : Int) = (b.length : Int) by omega)]
    simpa using sleq_l0 a b h hm a.length 0 (by omega)
  · simp only [if_neg (show ¬ (a.length : Int) = (b.length : Int) by omega)]
    exact (Ev.now _).to (by symm; simp; intro e; exact h (by rw [e]))

/-! impl.IsSequence -/
theorem iseq_l0 (d l : List Int) (hd : d.length ≤ 6) (hl : l.length ≤ 1048576) (ha : ∀ p ∈ l, 0 ≤ p ∧ p ≤ (d.length : Int) - 1) : ∀ (e i : Nat) (c : List Int), e + i = l.length → c.length = d.length → Ev (fun k => impl_IsSequence.l0 k d c l (l.length : Int) i) (decide (tally c (l.drop i) = d)) := by
  intro e
  induction e with
  | zero =>
    intro i c he hc
    apply Ev.succ
    simp only [impl_IsSequence.l0, if_neg (show ¬ (i : Int) < (l.length : Int) by omega)]
    rw [List.drop_of_length_le (by omega)]
    exact (Ev.bind (slEqual_ev c d (by omega)) (Ev.now _)).to rfl
  | succ e ih =>
    intro i c he hc
    have hi : i < l.length := by omega
    have h := ha l[i] (List.getElem_mem hi)
    apply Ev.succ
    simp only [impl_IsSequence.l0, if_pos (show (i : Int) < (l.length : Int) by omega), if_pos (show 0 ≤ (i : Int) by omega), rd_get hi, if_pos h.1, if_pos (show l[i] < (c.length : Int) by omega), w64 (show (-9223372036854775808) ≤ (i : Int) + 1 by omega) (by omega)]
    rw [List.drop_eq_getElem_cons hi, tally_cons]
    exact ih (i + 1) (bump c l[i]) (by omega) (by rw [bump_length, hc])
theorem iSEQ_ev (d l : List Int) (hl : l.length ≤ 1048576) (hdl : d.length ≤ 1048576) : Ev (fun k => impl_IsSequence.f k d l) (SEQ d l) := by
  unfold impl_IsSequence.f SEQ
  refine Ev.bind (iVD_ev d (by omega)) ?_
  cases h : VD d with
  | true =>
    obtain ⟨h1, h2, h3⟩ := VD_facts h
    simp only [if_true, Bool.true_and, impl_size_int64.f, Option.bind_some]
    refine Ev.bind (isum_ev d (by omega)) ?_
    have hs : wsum 0 d = d.sum := by
      rw [wsum_eq 40 d 0 (fun x hx => by have := h3 x hx; omega) (by omega) (by omega) (by omega)]; omega
    rw [hs]
    by_cases he : (l.length : Int) = d.sum
    · simp only [if_pos he]
      rw [w64 (show (-9223372036854775808) ≤ (d.length : Int) - 1 by omega) (by omega)]
      refine Ev.bind (areWithin_ev l 0 ((d.length : Int) - 1) (by omega)) ?_
      apply Ev.succ
      cases ha : (l.all fun n => decide (0 ≤ n ∧ n ≤ (d.length : Int) - 1)) with
      | true =>
        have ha' : ∀ n ∈ l, 0 ≤ n ∧ n ≤ (d.length : Int) - 1 := by simpa using ha
        simp only [impl_IsSequence.j0, Bool.not_true, Bool.false_eq_true, if_false, Bool.true_and, if_pos (show 0 ≤ (d.length : Int) by omega), Int.toNat_natCast, if_pos (show d.length ≤ 35184372088832 by omega)]
        have := iseq_l0 d l h2 hl ha' l.length 0 (List.replicate d.length 0) (by omega) (by simp)
        simpa using this
      | false =>
        simp only [impl_IsSequence.j0, Bool.not_false, if_true, Bool.false_and]
        exact Ev.now _
    · simp only [if_neg he]
      apply Ev.succ
      simp only [impl_IsSequence.j0, if_true]
      refine (Ev.now _).to ?_
      cases ha : (l.all fun n => decide (0 ≤ n ∧ n ≤ (d.length : Int) - 1)) with
      | true =>
        have ha' : ∀ n ∈ l, 0 ≤ n ∧ n ≤ (d.length : Int) - 1 := by simpa using ha
        rw [Bool.true_and]
        symm
        apply decide_eq_false
        intro e
        have := tally_sum l (List.replicate d.length 0) 0 zeros_mem (fun p hp => by have := ha' p hp; simp; omega) (by omega) (by omega)
        rw [e, zeros_sum] at this
        omega
      | false => rfl
  | false =>
    simp only [Bool.false_eq_true, if_false, Bool.false_and]
    apply Ev.succ
    simp only [impl_IsSequence.j0, if_true]
    exact Ev.now _

/-! impl.deviations -/
theorem rd_getDD {xs : List Int} {i : Nat} : rd xs (i : Int) = xs.getD i 0 := by
  unfold rd; simp
theorem idev_l0 (d c : List Int) (hc : c.length = d.length) (hd : d.length ≤ 1048576) : ∀ (e i : Nat), e + i = d.length → Ev (fun k => impl_deviations.l0 k d c ((List.range i).map (bown (wsum 0 d) (wsum 0 c) d c)) d (d.length : Int) i) (BEH d c) := by
  intro e
  induction e with
  | zero =>
    intro i he
    apply Ev.succ
    simp only [impl_deviations.l0, if_neg (show ¬ (i : Int) < d.length by omega)]
    rw [show i = d.length by omega]
    exact Ev.now _
  | succ e ih =>
    intro i he
    have hi : i < d.length := by omega
    apply Ev.succ
    simp only [impl_deviations.l0, if_pos (show (i : Int) < d.length by omega), if_pos (show 0 ≤ (i : Int) by omega)]
    refine Ev.bind (isum_ev d (by omega)) ?_
    simp only [if_pos (show (i : Int) < c.length by omega)]
    refine Ev.bind (isum_ev c (by omega)) ?_
    simp only [if_pos (show ((List.range i).map (bown (wsum 0 d) (wsum 0 c) d c)).length < 17592186044416 by simp; omega), rd_getDD, inc hi (by omega)]
    have := ih (i + 1) (by omega)
    rw [List.range_succ, List.map_append] at this
    exact this
theorem ideviations_ev (d c : List Int) (hc : c.length = d.length) (hd : d.length ≤ 1048576) : Ev (fun k => impl_deviations.f k d c) (BEH d c) := by
  unfold impl_deviations.f
  exact idev_l0 d c hc hd d.length 0 (by omega)

/-! impl.DeviationsOf -/
theorem idof_l0 (d l : List Int) (hd : d.length ≤ 6) (hl : l.length ≤ 1048576) (hp : ∀ p ∈ l, 0 ≤ p ∧ p ≤ (d.length : Int) - 1) : ∀ (e i : Nat) (c : List Int) (acc : List (List Int)), e + i = l.length → c.length = d.length → acc.length = i → Ev (fun k => impl_DeviationsOf.l0 k d c acc l (l.length : Int) i) (acc ++ DEVS d c (l.drop i), true) := by
  intro e
  induction e with
  | zero =>
    intro i c acc he hc ha
    apply Ev.succ
    simp only [impl_DeviationsOf.l0, if_neg (show ¬ (i : Int) < l.length by omega)]
    rw [List.drop_of_length_le (by omega)]
    simpa [DEVS] using Ev.now (acc, true)
  | succ e ih =>
    intro i c acc he hc ha
    have hi : i < l.length := by omega
    have hq := hp l[i] (List.getElem_mem hi)
    have hlen : (cnt c l[i]).length = d.length := by rw [cnt_length, hc]
    apply Ev.succ
    simp only [impl_DeviationsOf.l0, if_pos (show (i : Int) < l.length by omega), if_pos (show 0 ≤ (i : Int) by omega), rd_get hi, if_pos hq.1, if_pos (show l[i] < (c.length : Int) by omega), Option.bind_some]
    refine Ev.bind (ideviations_ev d (cnt c l[i]) hlen (by omega)) ?_
    simp only [if_pos (show acc.length < 5864062014805 by omega), inc hi (by omega)]
    have := ih (i + 1) (cnt c l[i]) (acc ++ [BEH d (cnt c l[i])]) (by omega) hlen (by simp [ha])
    rw [List.drop_eq_getElem_cons hi]
    exact this.to (by simp [DEVS])
theorem iDOF_ev (d l : List Int) (hl : l.length ≤ 1048576) (hdl : d.length ≤ 1048576) : Ev (fun k => impl_DeviationsOf.f k d l) (DOF d l) := by
  unfold impl_DeviationsOf.f DOF
  refine Ev.bind (iSEQ_ev d l hl hdl) ?_
  cases h : SEQ d l with
  | false =>
    simp only [Bool.false_eq_true, if_false]
    exact Ev.now _
  | true =>
    obtain ⟨h1, h2, h3, h4, h5⟩ := SEQ_facts h
    simp only [if_true, if_pos (show 0 ≤ (d.length : Int) by omega), Int.toNat_natCast, if_pos (show d.length ≤ 35184372088832 by omega)]
    have := idof_l0 d l h3 hl h5 l.length 0 (List.replicate d.length 0) [] (by omega) (by simp) rfl
    simpa using this

/-! impl.greatest -/
theorem mx_max (a b : Int) : mx a b = max a b := by
  unfold mx; rw [Int.max_def]; split <;> split <;> omega
theorem greatest_l0 (l : List Int) (hl : l.length ≤ 9223372036854775806) : ∀ (d i : Nat) (a : Int), d + i = l.length → Ev (fun k => impl_greatest.l0 k a l (l.length : Int) i) (GR a (l.drop i)) := by
  intro d
  induction d with
  | zero =>
    intro i a hd
    apply Ev.succ
    simp only [impl_greatest.l0, if_neg (show ¬ (i : Int) < (l.length : Int) by omega)]
    rw [List.drop_of_length_le (by omega)]
    exact Ev.now _
  | succ d ih =>
    intro i a hd
    have hi : i < l.length := by omega
    apply Ev.succ
    simp only [impl_greatest.l0, if_pos (show (i : Int) < (l.length : Int) by omega), if_pos (show 0 ≤ (i : Int) by omega), rd_get hi, mx_max, Int.max_assoc, inc hi (by omega)]
    rw [List.drop_eq_getElem_cons hi]
    exact ih (i + 1) _ (by omega)
theorem greatest_ev (l : List Int) (hl : l.length ≤ 9223372036854775806) : Ev (fun k => impl_greatest.f k l) (GR 0 l) := by
  have := greatest_l0 l hl l.length 0 0 (by omega)
  simpa [impl_greatest.f] using this

/-! slices.Concat   int64,int64  -/
theorem grow_nil (n : Int) (h0 : 0 ≤ n) (h1 : n < 17592186044416) : slices_Grow_int64_int64_nil.f n = some [] := by
  unfold slices_Grow_int64_int64_nil.f
  rw [w64 (show (-9223372036854775808) ≤ n by omega) (by omega), if_neg (by omega)]
  by_cases h : n > 0
  · rw [if_pos h, if_pos (by omega), if_pos (by simp; omega)]
    simp
  · rw [if_neg h]
theorem rdl_getC {xs : List (List Int)} {i : Nat} (h : i < xs.length) : rd_L1 xs (i : Int) = xs[i] := by
  unfold rd_L1; exact getD_get h
theorem flat_take (l : List (List Int)) (i : Nat) (h : i < l.length) : (l.take (i + 1)).flatten = (l.take i).flatten ++ l[i] := by
  rw [List.take_succ_eq_append_getElem h, List.flatten_append]
  simp
theorem flat_le (l : List (List Int)) (i : Nat) : (l.take i).flatten.length ≤ l.flatten.length := by
  have := congrArg (fun l => (List.flatten l).length) (List.take_append_drop i l)
  simp only [List.flatten_append, List.length_append] at this
  omega
theorem concat_l1 (l : List (List Int)) (hl : l.length ≤ 1048576) (hf : l.flatten.length ≤ 1000000000000) : ∀ (d i : Nat), d + i = l.length → Ev (fun k => slices_Concat_int64_int64.l1 k (l.take i).flatten l (l.length : Int) i) l.flatten := by
  intro d
  induction d with
  | zero =>
    intro i hd
    apply Ev.succ
    simp only [slices_Concat_int64_int64.l1, if_neg (show ¬ (i : Int) < (l.length : Int) by omega)]
    rw [List.take_of_length_le (by omega)]
    exact Ev.now _
  | succ d ih =>
    intro i hd
    have hi : i < l.length := by omega
    have h1 := flat_take l i hi
    have h2 := flat_le l (i + 1)
    rw [h1, List.length_append] at h2
    apply Ev.succ
    simp only [slices_Concat_int64_int64.l1, if_pos (show (i : Int) < (l.length : Int) by omega), if_pos (show 0 ≤ (i : Int) by omega), rdl_getC hi, if_pos (show (l.take i).flatten.length + l[i].length < 17592186044416 by omega), inc hi (by omega), ← h1]
    exact ih (i + 1) (by omega)
theorem concat_l0 (l : List (List Int)) (hl : l.length ≤ 1048576) (hf : l.flatten.length ≤ 1000000000000) : ∀ (d i : Nat), d + i = l.length → Ev (fun k => slices_Concat_int64_int64.l0 k l ((l.take i).flatten.length : Int) l (l.length : Int) i) l.flatten := by
  intro d
  induction d with
  | zero =>
    intro i hd
    have h2 := flat_le l i
    apply Ev.succ
    simp only [slices_Concat_int64_int64.l0, if_neg (show ¬ (i : Int) < (l.length : Int) by omega), grow_nil _ (show 0 ≤ ((l.take i).flatten.length : Int) by omega) (by omega), Option.bind_some]
    exact concat_l1 l hl hf l.length 0 (by omega)
  | succ d ih =>
    intro i hd
    have hi : i < l.length := by omega
    have h1 := flat_take l i hi
    have h2 := flat_le l (i + 1)
    rw [h1, List.length_append] at h2
    have h4 := flat_le l (i + 1)
    have h3 : wrap64 (((l.take i).flatten.length : Int) + (l[i].length : Int)) = ((l.take (i + 1)).flatten.length : Int) := by rw [w64 (by omega) (by omega), h1, List.length_append]; omega
    apply Ev.succ
    simp only [slices_Concat_int64_int64.l0, if_pos (show (i : Int) < (l.length : Int) by omega), if_pos (show 0 ≤ (i : Int) by omega), rdl_getC hi, h3, if_neg (show ¬ ((l.take (i + 1)).flatten.length : Int) < 0 by omega), inc hi (by omega)]
    exact ih (i + 1) (by omega)
theorem concat_ev (l : List (List Int)) (hl : l.length ≤ 1048576) (hf : l.flatten.length ≤ 1000000000000) : Ev (fun k => slices_Concat_int64_int64.f k l) l.flatten := by
  have := concat_l0 l hl hf l.length 0 (by omega)
  unfold slices_Concat_int64_int64.f
  exact this

/-! impl.GreatestDeviation -/
def GDV (d l : List Int) : Int × Bool := (GR 0 (DOF d l).1.flatten, (DOF d l).2)
theorem gd_impl (d l : List Int) (hl : l.length ≤ 1048576) (hdl : d.length ≤ 1048576) : Ev (fun k => impl_GreatestDeviation.f k d l) (GDV d l) := by
  unfold impl_GreatestDeviation.f GDV
  refine Ev.bind (iDOF_ev d l hl hdl) ?_
  have hb : (DOF d l).1.length ≤ 1048576 ∧ (DOF d l).1.flatten.length ≤ 6291456 := by
    unfold DOF
    cases h : SEQ d l with
    | false => simp
    | true =>
      obtain ⟨_, h2, h3, h4, h5⟩ := SEQ_facts h
      simp only [if_true, devs_length, devs_flat]
      refine ⟨hl, ?_⟩
      have : l.length * d.length ≤ 1048576 * 6 := Nat.mul_le_mul hl h3
      omega
  refine Ev.bind (concat_ev _ hb.1 (by omega)) (Ev.bind (greatest_ev _ (by omega)) (Ev.now _))

/-! spec.l00Src).next -/
theorem rd_byte {c : List Int} (hc : ∀ x ∈ c, 0 ≤ x ∧ x ≤ 255) (i : Int) : 0 ≤ rd c i ∧ rd c i ≤ 255 := by
  unfold rd
  by_cases h : i.toNat < c.length
  · rw [List.getD_eq_getElem?_getD, List.getElem?_eq_getElem h]
    exact hc _ (List.getElem_mem h)
  · rw [List.getD_eq_getElem?_getD, List.getElem?_eq_none (by omega)]
    simp
theorem next_ok (c : List Int) (a s : Int) (hc : ∀ x ∈ c, 0 ≤ x ∧ x ≤ 255) (h0 : 0 ≤ a) (h1 : a ≤ 4611686018427387904) : ∃ v s', spec_l00Src_next.f c a s = some (v, a + 1, s') ∧ 0 ≤ v ∧ v ≤ 255 := by
  have hb := rd_byte hc a
  have e1 : wrap64 (a + 1) = a + 1 := w64 (by omega) (by omega)
  have hv : ∀ X : Int, 0 ≤ wrap64 (Go.bits .and .u64 ((IntKind.u64.wrap X) / 1099511627776) 255) ∧ wrap64 (Go.bits .and .u64 ((IntKind.u64.wrap X) / 1099511627776) 255) ≤ 255 := by
    intro X
    have h := u64_range X
    generalize IntKind.u64.wrap X = Y at h
    rw [bits255 _ (by omega) (by omega), w64 (by omega) (by omega)]
    omega
  unfold spec_l00Src_next.f
  by_cases h : a < (c.length : Int)
  · rw [if_pos h, if_pos h0, e1, if_pos (by omega), w64 (by omega) (by omega)]
    exact ⟨_, _, rfl, hb.1, hb.2⟩
  · rw [if_neg h, e1, if_neg (by omega)]
    exact ⟨_, _, rfl, (hv _).1, (hv _).2⟩

/-! spec.l00Src).pick -/
theorem pick_ok (c : List Int) (a s n : Int) (hc : ∀ x ∈ c, 0 ≤ x ∧ x ≤ 255) (h0 : 0 ≤ a) (h1 : a ≤ 4611686018427387900) (hn : 1 ≤ n) : ∃ v a' s', spec_l00Src_pick.f c a s n = some (v, a', s') ∧ 0 ≤ v ∧ v < n ∧ a ≤ a' ∧ a' ≤ a + 2 := by
  have hm : ∀ x : Int, 0 ≤ x → 2 ≤ n → 0 ≤ x.tmod n ∧ x.tmod n < n := fun x hx h2 => ⟨Int.tmod_nonneg n hx, Int.tmod_lt_of_pos x (by omega)⟩
  unfold spec_l00Src_pick.f
  by_cases h : n ≤ 1
  · rw [if_pos h]
    exact ⟨_, _, _, rfl, by omega, by omega, by omega, by omega⟩
  · rw [if_neg h]
    obtain ⟨v, s1, e, v0, v1⟩ := next_ok c a s hc h0 (by omega)
    rw [e, Option.bind_some]
    by_cases h2 : n > 200
    · obtain ⟨v', s2, e2, v2, v3⟩ := next_ok c (a + 1) s1 hc (by omega) (by omega)
      rw [if_pos h2, e2, Option.bind_some, if_neg (by omega), w64 (show -9223372036854775808 ≤ v * 256 by omega) (by omega), w64 (by omega) (by omega)]
      have := hm (v * 256 + v') (by omega) (by omega)
      exact ⟨_, _, _, rfl, this.1, this.2, by show a ≤ a + 1 + 1; omega, by show a + 1 + 1 ≤ a + 2; omega⟩
    · rw [if_neg h2, if_neg (by omega)]
      have := hm v v0 (by omega)
      exact ⟨_, _, _, rfl, this.1, this.2, by show a ≤ a + 1; omega, by show a + 1 ≤ a + 2; omega⟩

/-! spec.R8Demands -/
theorem r8d_l0 (c : List Int) (hc : ∀ x ∈ c, 0 ≤ x ∧ x ≤ 255) : ∀ (e : Nat) (n : Int) (x4 : List Int) (a s : Int), n = e → e ≤ 4 → x4.length + e ≤ 4 → 0 ≤ a → a ≤ 1000 - 2 * e → (∀ x ∈ x4, 1 ≤ x ∧ x ≤ 5) → ∃ r, Ev (fun k => spec_R8Demands.l0 k x4 n c a s) r ∧ r.length = x4.length + e ∧ ∀ x ∈ r, 1 ≤ x ∧ x ≤ 5 := by
  intro e
  induction e with
  | zero =>
    intro n x4 a s hn _ _ _ _ hx
    refine ⟨x4, ?_, rfl, hx⟩
    apply Ev.succ
    simp only [spec_R8Demands.l0, if_neg (show ¬ n > 0 by omega)]
    exact Ev.now _
  | succ e ih =>
    intro n x4 a s hn he hl h0 h1 hx
    obtain ⟨v, a', s', hp, v0, v1, q0, q1⟩ := pick_ok c a s 5 hc h0 (by omega) (by omega)
    obtain ⟨r, hr, hr1, hr2⟩ := ih (n - 1) (x4 ++ [1 + v]) a' s' (by omega) (by omega) (by simp; omega) (by omega) (by omega) (fun x hx' => by
      rcases List.mem_append.1 hx' with h | h
      · exact hx x h
      · rw [List.mem_singleton.1 h]; omega)
    refine ⟨r, ?_, by rw [hr1]; simp; omega, hr2⟩
    apply Ev.succ
    simp only [spec_R8Demands.l0, if_pos (show n > 0 by omega), hp, Option.bind_some, if_pos (show x4.length < 17592186044416 by omega), w64 (show (-9223372036854775808) ≤ 1 + v by omega) (by omega), w64 (show (-9223372036854775808) ≤ n - 1 by omega) (by omega)]
    exact hr
theorem prod_le : ∀ (l : List Int) (s : Int), 0 ≤ s → (∀ n ∈ l, 1 ≤ n ∧ n ≤ 5) → l.foldl (fun s d => s * (d + 1)) s ≤ s * 6 ^ l.length := by
  intro l
  induction l with
  | nil => intro s _ _; simp
  | cons d l ih =>
    intro s hs h
    have hd := h d List.mem_cons_self
    have h0 : 0 ≤ s * (d + 1) := Int.mul_nonneg hs (by omega)
    have h1 := ih (s * (d + 1)) h0 (fun n hn => h n (List.mem_cons_of_mem _ hn))
    have h2 : s * (d + 1) ≤ s * 6 := Int.mul_le_mul_of_nonneg_left (by omega) hs
    have h3 : (0 : Int) ≤ 6 ^ l.length := Int.pow_nonneg (by omega)
    have h4 : s * (d + 1) * 6 ^ l.length ≤ s * 6 * 6 ^ l.length := Int.mul_le_mul_of_nonneg_right h2 h3
    simp only [List.foldl_cons, List.length_cons]
    rw [Int.pow_succ, Int.mul_comm (6 ^ l.length) 6, ← Int.mul_assoc]
    omega
theorem r8d_vd {l : List Int} (h0 : 1 ≤ l.length) (h1 : l.length ≤ 4) (h : ∀ n ∈ l, 1 ≤ n ∧ n ≤ 5) : VD l = true := by
  have hp := prod_le l 1 (by omega) h
  have h6 : (6 : Int) ^ l.length ≤ 1296 := by
    have : l.length = 1 ∨ l.length = 2 ∨ l.length = 3 ∨ l.length = 4 := by omega
    rcases this with e | e | e | e <;> rw [e] <;> decide
  simp only [VD, le5, Bool.and_eq_true, decide_eq_true_eq, List.all_eq_true]
  exact ⟨⟨by omega, fun n hn => by have := h n hn; omega⟩, by omega⟩
theorem r8d_ev (c : List Int) (hc : ∀ x ∈ c, 0 ≤ x ∧ x ≤ 255) : ∃ r, Ev (fun k => spec_R8Demands.f k c) r ∧ VD r = true ∧ r.length ≤ 4 ∧ ∀ n ∈ r, 1 ≤ n ∧ n ≤ 5 := by
  obtain ⟨v, a', s', hp, v0, v1, q0, q1⟩ := pick_ok c 0 0 4 hc (by omega) (by omega) (by omega)
  obtain ⟨m, hm⟩ := Int.eq_ofNat_of_zero_le v0
  obtain ⟨r, hr, hr1, hr2⟩ := r8d_l0 c hc (1 + m) (1 + v) [] a' s' (by omega) (by omega) (by simp; omega) (by omega) (by omega) (fun x hx => by simp at hx)
  refine ⟨r, ?_, r8d_vd (by rw [hr1]; simp) (by rw [hr1]; simp; omega) hr2, by rw [hr1]; simp; omega, hr2⟩
  unfold spec_R8Demands.f
  simp only [spec_l00From.f, Option.bind_some, hp, w64 (show (-9223372036854775808) ≤ 1 + v by omega) (by omega)]
  exact hr

/-! spec.l00Own -/
theorem own_eq (l : List Int) (h : l.length ≤ 1048576) : spec_l00Own.f l = some l := by
  unfold spec_l00Own.f
  simp only [Option.bind_some, List.length_nil, List.nil_append]
  rw [if_pos (by omega)]

/-! spec.l01Sum -/
theorem ssum_l0 (l : List Int) (hl : l.length ≤ 9223372036854775806) : ∀ (d i : Nat) (acc : Int), d + i = l.length → Ev (fun k => spec_l01Sum.l0 k l acc i) (wsum acc (l.drop i)) := by
  intro d
  induction d with
  | zero =>
    intro i acc hd
    apply Ev.succ
    simp only [spec_l01Sum.l0, if_neg (show ¬ (i : Int) < (l.length : Int) by omega)]
    rw [List.drop_of_length_le (by omega)]
    exact Ev.now _
  | succ d ih =>
    intro i acc hd
    have hi : i < l.length := by omega
    apply Ev.succ
    simp only [spec_l01Sum.l0, if_pos (show (i : Int) < (l.length : Int) by omega), if_pos (show 0 ≤ (i : Int) by omega), rd_get hi, w64 (show (-9223372036854775808) ≤ (i : Int) + 1 by omega) (by omega)]
    rw [List.drop_eq_getElem_cons hi]
    exact ih (i + 1) _ (by omega)
theorem ssum_ev (l : List Int) (hl : l.length ≤ 9223372036854775806) : Ev (fun k => spec_l01Sum.f k l) (wsum 0 l) := by
  have := ssum_l0 l hl l.length 0 0 (by omega)
  simpa [spec_l01Sum.f] using this

/-! spec.R8Sequence -/
theorem r8s_l1 (d x6 c m : List Int) (k a s : Int) (hc : c.length = d.length) (hn : 1 ≤ d.length) (hn2 : d.length ≤ 6) (h6 : x6.length ≤ 100000) (hb : ∀ i, 0 ≤ c.getD i 0 ∧ c.getD i 0 ≤ 1000) (hk : 0 ≤ k ∧ k ≤ 100000) : ∀ (t i : Nat), i < d.length → c.getD ((i + t) % d.length) 0 ≠ 0 → ∃ j, j < d.length ∧ c.getD j 0 ≠ 0 ∧ ∀ r, Ev (fun n => spec_R8Sequence.l0 n d (x6 ++ [(j : Int)]) (c.set j (c.getD j 0 - 1)) (k - 1) m a s) r → Ev (fun n => spec_R8Sequence.l1 n d x6 c k i m a s) r := by
  intro t
  induction t with
  | zero =>
    intro i hi h
    rw [Nat.add_zero, Nat.mod_eq_of_lt hi] at h
    refine ⟨i, hi, h, fun r hr => ?_⟩
    have hbi := hb i
    apply Ev.succ
    simp only [spec_R8Sequence.l1, if_pos (show 0 ≤ (i : Int) by omega), if_pos (show (i : Int) < c.length by omega), rd_nat, if_neg h, if_pos (show x6.length < 17592186044416 by omega), Int.toNat_natCast, w64 (show (-9223372036854775808) ≤ c.getD i 0 - 1 by omega) (by omega), w64 (show (-9223372036854775808) ≤ k - 1 by omega) (by omega)]
    exact hr
  | succ t ih =>
    intro i hi h
    by_cases h0 : c.getD i 0 = 0
    · have hi' : (i + 1) % d.length < d.length := Nat.mod_lt _ (by omega)
      have he : ((i + 1) % d.length + t) % d.length = (i + (t + 1)) % d.length := by
        rw [Nat.mod_add_mod]; congr 1; omega
      obtain ⟨j, hj, hj0, hj2⟩ := ih ((i + 1) % d.length) hi' (by rw [he]; exact h)
      refine ⟨j, hj, hj0, fun r hr => ?_⟩
      have := hj2 r hr
      have e : Int.tmod (wrap64 ((i : Int) + 1)) (d.length : Int) = (((i + 1) % d.length : Nat) : Int) := by
        rw [w64 (by omega) (by omega), Int.tmod_eq_emod_of_nonneg (by omega), Int.natCast_emod, Int.natCast_add]
        rfl
      apply Ev.succ
      simp only [spec_R8Sequence.l1, if_pos (show 0 ≤ (i : Int) by omega), if_pos (show (i : Int) < c.length by omega), rd_nat, if_pos h0, if_neg (show ¬ (d.length : Int) = 0 by omega), e]
      exact this
    · refine ⟨i, hi, h0, fun r hr => ?_⟩
      have hbi := hb i
      apply Ev.succ
      simp only [spec_R8Sequence.l1, if_pos (show 0 ≤ (i : Int) by omega), if_pos (show (i : Int) < c.length by omega), rd_nat, if_neg h0, if_pos (show x6.length < 17592186044416 by omega), Int.toNat_natCast, w64 (show (-9223372036854775808) ≤ c.getD i 0 - 1 by omega) (by omega), w64 (show (-9223372036854775808) ≤ k - 1 by omega) (by omega)]
      exact hr
theorem r8s_l0 (d m : List Int) (hm : ∀ x ∈ m, 0 ≤ x ∧ x ≤ 255) (hn : 1 ≤ d.length) (hn2 : d.length ≤ 6) : ∀ (e : Nat) (k : Int) (x6 c : List Int) (a s : Int), k = e → e ≤ 1000 → c.length = d.length → x6.length + e ≤ 1000 → (∀ i, 0 ≤ c.getD i 0 ∧ c.getD i 0 ≤ 1000) → (∀ x ∈ c, 0 ≤ x) → c.sum = k → 0 ≤ a → a ≤ 10000 - 2 * e → ∃ L, Ev (fun n => spec_R8Sequence.l0 n d x6 c k m a s) (x6 ++ L) ∧ L.length = e ∧ (∀ p ∈ L, 0 ≤ p ∧ p < d.length) ∧ ∀ i, cntOf i L = c.getD i 0 := by
  intro e
  induction e with
  | zero =>
    intro k x6 c a s hk _ hc _ hb hp hs _ _
    refine ⟨[], ?_, rfl, fun p hp => by simp at hp, fun i => by rw [sum_zero c hp (by omega) i]; rfl⟩
    apply Ev.succ
    simp only [spec_R8Sequence.l0, if_neg (show ¬ k > 0 by omega), List.append_nil]
    exact Ev.now _
  | succ e ih =>
    intro k x6 c a s hk he hc h6 hb hp hs h0 h1
    obtain ⟨v, a', s', hpk, v0, v1, q0, q1⟩ := pick_ok m a s d.length hm h0 (by omega) (by omega)
    obtain ⟨i, rfl⟩ := Int.eq_ofNat_of_zero_le v0
    obtain ⟨p, hpl, hp0⟩ := sum_pos_ex c hp (by omega)
    obtain ⟨j, hj, hj0, hj2⟩ := r8s_l1 d x6 c m k a' s' hc hn hn2 (by omega) hb (by omega) (p + d.length - i) i (by omega) (by
      rw [show i + (p + d.length - i) = p + d.length by omega, Nat.add_mod_right, Nat.mod_eq_of_lt (by omega)]
      exact hp0)
    have hbj := hb j
    have hsum : (c.set j (c.getD j 0 - 1)).sum = k - 1 := by
      rw [sum_set c j _ (by omega)]
      have : c[j] = c.getD j 0 := by simp [List.getD_eq_getElem?_getD, show j < c.length by omega]
      omega
    have hget : ∀ i, (c.set j (c.getD j 0 - 1)).getD i 0 = c.getD i 0 - (if j = i then 1 else 0) := by
      intro i
      by_cases e : j = i
      · subst e; rw [getD_setE _ (by omega), if_pos rfl]
      · rw [getD_setN _ e, if_neg e]; omega
    obtain ⟨L, hL, hl, hr, hcn⟩ := ih (k - 1) (x6 ++ [(j : Int)]) (c.set j (c.getD j 0 - 1)) a' s' (by omega) (by omega) (by simp [hc]) (by simp; omega) (fun i => by rw [hget i]; have := hb i; split <;> (try subst_vars) <;> omega) (fun x hx => by
      rcases List.mem_or_eq_of_mem_set hx with hx | hx
      · exact hp x hx
      · omega) hsum (by omega) (by omega)
    refine ⟨(j : Int) :: L, ?_, by simp [hl], ?_, ?_⟩
    · have := hj2 _ hL
      apply Ev.succ
      simp only [spec_R8Sequence.l0, if_pos (show k > 0 by omega), hpk, Option.bind_some]
      rw [List.append_assoc] at this
      exact this
    · intro q hq
      rcases List.mem_cons.1 hq with rfl | hq
      · omega
      · exact hr q hq
    · intro i
      simp only [cntOf]
      rw [hcn i, hget i]
      by_cases e : j = i
      · rw [if_pos e, if_pos (by omega)]; omega
      · rw [if_neg e, if_neg (by omega)]; omega
theorem r8s_ev (m d : List Int) (hm : ∀ x ∈ m, 0 ≤ x ∧ x ≤ 255) (hv : VD d = true) (hw : wsum 0 d = d.sum) (hs : 1 ≤ d.sum ∧ d.sum ≤ 240) : ∃ L, Ev (fun k => spec_R8Sequence.f k m d) L ∧ SEQ d L = true ∧ (L.length : Int) = d.sum := by
  obtain ⟨v1, v2, v3⟩ := VD_facts hv
  obtain ⟨e, he⟩ := Int.eq_ofNat_of_zero_le (show 0 ≤ d.sum by omega)
  have hg : ∀ i, 0 ≤ d.getD i 0 ∧ d.getD i 0 ≤ 1000 := by
    intro i
    by_cases h : i < d.length
    · have := v3 (d.getD i 0) (getD_mem h); omega
    · rw [List.getD_eq_getElem?_getD, List.getElem?_eq_none (by omega)]; simp
  obtain ⟨L, hL, hl, hr, hc⟩ := r8s_l0 d m hm v1 v2 e d.sum [] d 0 0 he (by omega) rfl (by simp; omega) hg (fun x hx => by have := v3 x hx; omega) rfl (by omega) (by omega)
  refine ⟨L, ?_, ?_, by omega⟩
  · unfold spec_R8Sequence.f
    simp only [spec_l00From.f, spec_l00Own.f, Option.bind_some, List.length_nil, Nat.zero_add, if_pos (show d.length < 17592186044416 by omega), List.nil_append]
    refine Ev.bind (ssum_ev d (by omega)) ?_
    rw [hw]
    exact hL
  · simp only [SEQ, hv, Bool.true_and, Bool.and_eq_true, List.all_eq_true, decide_eq_true_eq]
    refine ⟨fun p hp => by have := hr p hp; omega, ?_⟩
    refine list_eq_ofC (by rw [tally_length, List.length_replicate]) (fun i hi => ?_)
    rw [tally_getD L _ 0 (fun p hp => by rw [List.length_replicate]; exact hr p hp) (fun i => by rw [zeros_getD]; omega) (by omega) i, zeros_getD, hc i]
    omega

/-! impl.floor -/
theorem ifloor_eq {a b : Int} (hb : 0 < b) (h1 : -9223372036854775807 ≤ a) (h2 : a ≤ 9223372036854775807) : impl_floor.f a b = some (a / b) := by
  have r1 := tdiv_range hb h1 h2 (by omega)
  have hf := floorB (a := a) hb
  have e1 : wrap64 (a.tdiv b) = a.tdiv b := w64 (by omega) (by omega)
  unfold impl_floor.f
  rw [if_neg (by omega), e1]
  by_cases h : a.tmod b < 0
  · rw [if_pos h] at hf
    rw [if_pos h, w64 (by omega) (by omega), hf]
  · rw [if_neg h] at hf
    rw [if_neg h, hf]

/-! impl.ceiling -/
theorem iceil_eq {a b : Int} (hb : 0 < b) (h1 : -1000000000000 ≤ a) (h2 : a ≤ 1000000000000) : impl_ceiling.f a b = some (ceilOf a b) := by
  have hr := ceil_range (m := 1000000000000) hb h1 h2 (by omega)
  unfold impl_ceiling.f ceilOf
  rw [w64 (show (-9223372036854775808) ≤ -a by omega) (by omega), ifloor_eq hb (by omega) (by omega), Option.bind_some, w64 (by omega) (by omega)]

/-! impl.WindowsOf -/
theorem mx_maxW (a b : Int) : mx a b = max a b := by
  unfold mx; omega
theorem mn_minW (a b : Int) : mn a b = min a b := by
  unfold mn; omega
theorem iwin_l1 (D B d : Int) (x8 x9 : List (List Int)) (ds : List Int) (i : Nat) (hi : i < ds.length) (hds : ds.length ≤ 6) (h8 : x8.length = i) (h9 : x9.length = i) (hD : 1 ≤ D ∧ D ≤ 240) (hd : 1 ≤ d ∧ d ≤ 40) (hB : 0 ≤ B ∧ B ≤ 57600) {R : List (List Int) × List (List Int) × Bool}
    (hs : Ev (fun k => impl_WindowsOf.l0 k B D (x8 ++ [earlyW D B d]) (x9 ++ [lateW D B d]) ds (ds.length : Int) ((i : Int) + 1)) R) : ∀ (e j : Nat), e + j = d.toNat → Ev (fun k => impl_WindowsOf.l1 k B D x8 x9 d ((List.range j).map (early1 D B d)) ((List.range j).map (late1 D B d)) ((j : Int) + 1) ds (ds.length : Int) i) R := by
  intro e
  induction e with
  | zero =>
    intro j he
    apply Ev.succ
    simp only [impl_WindowsOf.l1, if_neg (show ¬ (j : Int) + 1 ≤ d by omega), if_pos (show x8.length < 5864062014805 by omega), if_pos (show x9.length < 5864062014805 by omega), inc hi (by omega)]
    rw [show j = d.toNat by omega]
    exact hs
  | succ e ih =>
    intro j he
    have r1 := mul_range (a := D) (b := (j : Int) + 1) (A := 240) (B := 40) (by omega) (by omega) (by omega) (by omega)
    have r2 := mul_range (a := D) (b := (j : Int)) (A := 240) (B := 40) (by omega) (by omega) (by omega) (by omega)
    have r3 := ediv_range (a := B + D * (j : Int)) (b := d) (m := 100000) (by omega) (by omega) (by omega) (by omega)
    apply Ev.succ
    simp only [impl_WindowsOf.l1, if_pos (show (j : Int) + 1 ≤ d by omega), w64 (show (-9223372036854775808) ≤ D * ((j : Int) + 1) by omega) (by omega), w64 (show (-9223372036854775808) ≤ D * ((j : Int) + 1) - B by omega) (by omega), iceil_eq (show 0 < d by omega) (show -1000000000000 ≤ D * ((j : Int) + 1) - B by omega) (by omega), Option.bind_some, List.length_map, List.length_range, if_pos (show j < 17592186044416 by omega), show (j : Int) + 1 - 1 = j by omega, w64 (show (-9223372036854775808) ≤ (j : Int) by omega) (by omega), w64 (show (-9223372036854775808) ≤ D * (j : Int) by omega) (by omega), w64 (show (-9223372036854775808) ≤ B + D * (j : Int) by omega) (by omega), ifloor_eq (show 0 < d by omega) (show -9223372036854775807 ≤ B + D * (j : Int) by omega) (by omega), w64 (show (-9223372036854775808) ≤ (B + D * (j : Int)) / d + 1 by omega) (by omega), mx_maxW, mn_minW, w64 (show (-9223372036854775808) ≤ (j : Int) + 1 + 1 by omega) (by omega)]
    have := ih (j + 1) (by omega)
    rw [List.range_succ, List.map_append, List.map_append] at this
    exact this
theorem iwin_l0 (D B : Int) (ds : List Int) (hds : ds.length ≤ 6) (hD : 1 ≤ D ∧ D ≤ 240) (hd : ∀ d ∈ ds, 1 ≤ d ∧ d ≤ 40) (hB : 0 ≤ B ∧ B ≤ 57600) : ∀ (e i : Nat), e + i = ds.length → Ev (fun k => impl_WindowsOf.l0 k B D ((ds.take i).map (earlyW D B)) ((ds.take i).map (lateW D B)) ds (ds.length : Int) i) (ds.map (earlyW D B), ds.map (lateW D B), true) := by
  intro e
  induction e with
  | zero =>
    intro i he
    apply Ev.succ
    simp only [impl_WindowsOf.l0, if_neg (show ¬ (i : Int) < ds.length by omega)]
    rw [List.take_of_length_le (by omega)]
    exact Ev.now _
  | succ e ih =>
    intro i he
    have hi : i < ds.length := by omega
    apply Ev.succ
    simp only [impl_WindowsOf.l0, if_pos (show (i : Int) < ds.length by omega), if_pos (show 0 ≤ (i : Int) by omega), rd_get hi]
    have := ih (i + 1) (by omega)
    rw [List.take_succ_eq_append_getElem hi, List.map_append, List.map_append] at this
    exact iwin_l1 D B ds[i] _ _ ds i hi hds (by simp; omega) (by simp; omega) hD (hd _ (List.getElem_mem hi)) hB this ds[i].toNat 0 (by omega)
theorem iWIN_ev (ds : List Int) (B : Int) (hds : ds.length ≤ 1048576) : Ev (fun k => impl_WindowsOf.f k ds B) (WIN ds B) := by
  unfold impl_WindowsOf.f WIN okB
  refine Ev.bind (isum_ev ds (by omega)) (Ev.bind (iVD_ev ds (by omega)) ?_)
  cases h : VD ds with
  | false =>
    simp only [Bool.false_eq_true, if_false, Bool.false_and]
    apply Ev.succ
    simp only [impl_WindowsOf.j0, if_true]
    exact Ev.now _
  | true =>
    obtain ⟨s1, s2, s3, _⟩ := vd_sum h
    obtain ⟨v1, v2, v3⟩ := VD_facts h
    have r := mul_range (a := ds.sum) (b := ds.sum) (A := 240) (B := 240) (by omega) s3 (by omega) s3
    simp only [if_true, Bool.true_and, s1, w64 (show (-9223372036854775808) ≤ ds.sum * ds.sum by omega) (by omega), w64 (show (-9223372036854775808) ≤ ds.sum * ds.sum - 1 by omega) (by omega), within_eq, Option.bind_some]
    apply Ev.succ
    by_cases hb : 0 ≤ B ∧ B ≤ ds.sum * ds.sum - 1
    · simp only [impl_WindowsOf.j0, decide_eq_true hb, Bool.not_true, Bool.false_eq_true, if_false, if_true]
      exact iwin_l0 ds.sum B ds v2 ⟨s2, s3⟩ v3 (by omega) ds.length 0 (by omega)
    · simp only [impl_WindowsOf.j0, decide_eq_false hb, Bool.not_false, if_true, Bool.false_eq_true, if_false]
      exact Ev.now _

/-! the law -/
theorem rdl_getW {xs : List (List Int)} {i : Nat} : rd_L1 xs (i : Int) = xs.getD i [] := by
  unfold rd_L1; simp
theorem getD_mapW {α β : Type} (f : α → β) {l : List α} {i : Nat} (d : α) (e : β) (h : i < l.length) : (l.map f).getD i e = f (l.getD i d) := by
  simp [List.getD_eq_getElem?_getD, h]
theorem getD_rangeW {β : Type} (f : Nat → β) {n i : Nat} (e : β) (h : i < n) : ((List.range n).map f).getD i e = f i := by
  simp [List.getD_eq_getElem?_getD, h]
/-- How often i stands in the first k. -/
def cc (L : List Int) (k i : Nat) : Int := cntOf i (L.take k)
theorem cc_zero (L : List Int) (i : Nat) : cc L 0 i = 0 := by simp [cc, cntOf]
theorem cc_succ {L : List Int} {k : Nat} (h : k < L.length) (i : Nat) : cc L (k + 1) i = cc L k i + (if L.getD k 0 = (i : Int) then 1 else 0) := by
  have e : L.getD k 0 = L[k] := by simp [List.getD_eq_getElem?_getD, h]
  rw [cc, List.take_succ_eq_append_getElem h, cntOf_append, e]
  simp [cc, cntOf]
theorem cc_nonneg (L : List Int) (k i : Nat) : 0 ≤ cc L k i := cntOf_nonneg i _
theorem cc_le_len (L : List Int) (k i : Nat) : cc L k i ≤ k := by
  have h1 := cntOf_le i (L.take k)
  have h2 : (L.take k).length ≤ k := by rw [List.length_take]; omega
  unfold cc; omega
theorem cc_mono (L : List Int) (i : Nat) : ∀ (e k : Nat), e + k ≤ L.length → cc L k i ≤ cc L (e + k) i := by
  intro e
  induction e with
  | zero => intro k _; simp
  | succ e ih =>
    intro k h
    have h1 := ih k (by omega)
    have h2 := cc_succ (L := L) (k := e + k) (by omega) i
    rw [show e + 1 + k = e + k + 1 by omega, h2]
    split <;> omega
/-- What is known of a sequence. -/
structure Sq (d L : List Int) : Prop where
  vd : VD d = true
  rng : ∀ k, k < L.length → 0 ≤ L.getD k 0 ∧ L.getD k 0 < d.length
  len : (L.length : Int) = d.sum
  fin : ∀ i, i < d.length → cc L L.length i = d.getD i 0
  tal : ∀ k, k ≤ L.length → ∀ i, (tally (List.replicate d.length 0) (L.take k)).getD i 0 = cc L k i
theorem sq_of {d L : List Int} (h : SEQ d L = true) (hl : (L.length : Int) = d.sum) (hs : d.sum ≤ 240) : Sq d L := by
  simp only [SEQ, Bool.and_eq_true, List.all_eq_true, decide_eq_true_eq] at h
  obtain ⟨h1, h2, h3⟩ := h
  have hp : ∀ k, ∀ p ∈ L.take k, 0 ≤ p ∧ p < ((List.replicate d.length (0 : Int)).length : Int) := fun k p hp => by
    have := h2 p (List.mem_of_mem_take hp)
    rw [List.length_replicate]; omega
  have ht : ∀ k, k ≤ L.length → ∀ i, (tally (List.replicate d.length 0) (L.take k)).getD i 0 = cc L k i := fun k hk i => by
    rw [tally_getD (L.take k) _ 0 (hp k) (fun i => by rw [zeros_getD]; omega) (by rw [List.length_take]; omega) i, zeros_getD, cc]
    omega
  refine ⟨h1, fun k hk => by have := h2 _ (getD_mem (d := 0) hk); omega, hl, fun i hi => ?_, ht⟩
  have := ht L.length (Nat.le_refl _) i
  rw [List.take_of_length_le (Nat.le_refl _), h3] at this
  exact this.symm
/-- The deviation of i behind k elements. -/
def dev (d L : List Int) (k i : Nat) : Int := d.sum * cc L k i - (k : Int) * d.getD i 0
def fit (d L : List Int) (B : Int) (k : Nat) : Bool := decide (dev d L (k + 1) (L.getD k 0).toNat ≤ B) && decide (-(dev d L k (L.getD k 0).toNat) ≤ B)
theorem sq_d {d L : List Int} (h : Sq d L) {i : Nat} (hi : i < d.length) : 1 ≤ d.getD i 0 ∧ d.getD i 0 ≤ 40 ∧ d.getD i 0 ≤ d.sum := by
  have h1 := (VD_facts h.vd).2.2 _ (getD_mem (d := 0) hi)
  have h2 := (vd_sum h.vd).2.2.2 _ (getD_mem (d := 0) hi)
  omega
theorem sq_c {d L : List Int} (h : Sq d L) {k i : Nat} (hk : k ≤ L.length) (hi : i < d.length) : 0 ≤ cc L k i ∧ cc L k i ≤ d.getD i 0 ∧ cc L k i ≤ k := by
  have h1 := cc_mono L i (L.length - k) k (by omega)
  rw [show L.length - k + k = L.length by omega, h.fin i hi] at h1
  exact ⟨cc_nonneg L k i, h1, cc_le_len L k i⟩
theorem dev_zero (d L : List Int) (i : Nat) : dev d L 0 i = 0 := by simp [dev, cc_zero]
theorem dev_end {d L : List Int} (h : Sq d L) {i : Nat} (hi : i < d.length) : dev d L L.length i = 0 := by
  rw [dev, h.fin i hi, h.len]; omega
theorem dev_same {d L : List Int} {k : Nat} (h : k < L.length) (i : Nat) (hn : L.getD k 0 ≠ (i : Int)) : dev d L (k + 1) i = dev d L k i - d.getD i 0 := by
  have e : ((k + 1 : Nat) : Int) * d.getD i 0 = (k : Int) * d.getD i 0 + d.getD i 0 := by rw [Int.natCast_succ, Int.add_mul, Int.one_mul]
  rw [dev, dev, cc_succ h, if_neg hn, e, Int.add_zero]
  omega
/-- The last copy before it. -/
theorem above {d L : List Int} (h : Sq d L) {i : Nat} (hi : i < d.length) (m : Int) (hm : 0 < m) : ∀ (k : Nat), k ≤ L.length → m ≤ dev d L k i → ∃ q, q < k ∧ L.getD q 0 = (i : Int) ∧ m ≤ dev d L (q + 1) i := by
  intro k
  induction k with
  | zero => intro _ h0; rw [dev_zero] at h0; omega
  | succ k ih =>
    intro hk h0
    by_cases e : L.getD k 0 = (i : Int)
    · exact ⟨k, by omega, e, h0⟩
    · have := dev_same (d := d) (show k < L.length by omega) i e
      have hd := sq_d h hi
      obtain ⟨q, q1, q2, q3⟩ := ih (by omega) (by omega)
      exact ⟨q, by omega, q2, q3⟩
/-- The next copy behind it. -/
theorem below {d L : List Int} (h : Sq d L) {i : Nat} (hi : i < d.length) (m : Int) (hm : 0 < m) : ∀ (e k : Nat), e + k = L.length → dev d L k i ≤ -m → ∃ q, q < L.length ∧ L.getD q 0 = (i : Int) ∧ dev d L q i ≤ -m := by
  intro e
  induction e with
  | zero =>
    intro k hk h0
    rw [show k = L.length by omega, dev_end h hi] at h0
    omega
  | succ e ih =>
    intro k hk h0
    by_cases c : L.getD k 0 = (i : Int)
    · exact ⟨k, by omega, c, h0⟩
    · have := dev_same (d := d) (show k < L.length by omega) i c
      have hd := sq_d h hi
      exact ih (k + 1) (by omega) (by omega)
theorem dev_bound {d L : List Int} (h : Sq d L) {k i : Nat} (hk0 : 1 ≤ k) (hk : k ≤ L.length) (hi : i < d.length) : -(d.sum * d.sum - 1) ≤ dev d L k i ∧ dev d L k i ≤ d.sum * d.sum - 1 := by
  have hd := sq_d h hi
  have hc := sq_c h hk hi
  have hl := h.len
  have s2 := (vd_sum h.vd).2.1
  have a1 : d.sum * cc L k i ≤ d.sum * d.sum := Int.mul_le_mul_of_nonneg_left (by omega) (by omega)
  have a2 : 0 ≤ d.sum * cc L k i := Int.mul_nonneg (by omega) hc.1
  have a3 : 1 * 1 ≤ (k : Int) * d.getD i 0 := Int.mul_le_mul (by omega) hd.1 (by omega) (by omega)
  by_cases e : k = L.length
  · subst e
    rw [dev_end h hi]
    have : 1 * 1 ≤ d.sum * d.sum := Int.mul_le_mul (by omega) (by omega) (by omega) (by omega)
    omega
  · have a4 : (k : Int) * d.getD i 0 ≤ (d.sum - 1) * d.sum := Int.mul_le_mul (by omega) hd.2.2 (by omega) (by omega)
    have a5 : (d.sum - 1) * d.sum = d.sum * d.sum - d.sum := by rw [Int.sub_mul, Int.one_mul]
    unfold dev
    omega
theorem fits_most {d L : List Int} (h : Sq d L) (B : Int) (hB : 0 ≤ B) (hall : ∀ k i, 1 ≤ k → k ≤ L.length → i < d.length → -B ≤ dev d L k i ∧ dev d L k i ≤ B) : (List.range L.length).all (fit d L B) = true := by
  rw [List.all_eq_true]
  intro k hk
  have hk := List.mem_range.1 hk
  have hr := h.rng k hk
  have hi : (L.getD k 0).toNat < d.length := by omega
  simp only [fit, Bool.and_eq_true, decide_eq_true_eq]
  refine ⟨(hall (k + 1) _ (by omega) (by omega) hi).2, ?_⟩
  by_cases e : k = 0
  · subst e; rw [dev_zero]; omega
  · have := (hall k _ (by omega) (by omega) hi).1
    omega
theorem fits_less {d L : List Int} (h : Sq d L) (M : Int) (hM : 0 < M) (hex : ∃ k i, 1 ≤ k ∧ k ≤ L.length ∧ i < d.length ∧ (dev d L k i = M ∨ -(dev d L k i) = M)) : (List.range L.length).all (fit d L (M - 1)) = false := by
  obtain ⟨k, i, k0, k1, hi, hM2⟩ := hex
  rw [Bool.eq_false_iff]
  intro hall
  rw [List.all_eq_true] at hall
  rcases hM2 with e | e
  · obtain ⟨q, q1, q2, q3⟩ := above h hi M hM k k1 (by omega)
    have := hall q (List.mem_range.2 (by omega))
    simp only [fit, Bool.and_eq_true, decide_eq_true_eq, q2, Int.toNat_natCast] at this
    omega
  · obtain ⟨q, q1, q2, q3⟩ := below h hi M hM (L.length - k) k (by omega) (by omega)
    have := hall q (List.mem_range.2 (by omega))
    simp only [fit, Bool.and_eq_true, decide_eq_true_eq, q2, Int.toNat_natCast] at this
    omega
/-! the deviations, as the program has them -/
theorem devs_flat_mem (d : List Int) : ∀ (L c : List Int) (x : Int), x ∈ (DEVS d c L).flatten ↔ ∃ k, k < L.length ∧ x ∈ BEH d (tally c (L.take (k + 1)))
  | [], c, x => by simp [DEVS]
  | p :: L, c, x => by
    rw [DEVS, List.flatten_cons, List.mem_append, devs_flat_mem d L (cnt c p) x]
    constructor
    · rintro (h | ⟨k, hk, h⟩)
      · exact ⟨0, by simp, h⟩
      · exact ⟨k + 1, by simp; omega, h⟩
    · rintro ⟨k, hk, h⟩
      cases k with
      | zero => exact .inl h
      | succ k => exact .inr ⟨k, by simpa using hk, h⟩
theorem beh_dev {d L : List Int} (h : Sq d L) {k : Nat} (hk : k ≤ L.length) (i : Nat) (hi : i < d.length) : bown (wsum 0 d) (wsum 0 (tally (List.replicate d.length 0) (L.take k))) d (tally (List.replicate d.length 0) (L.take k)) i = dev d L k i := by
  obtain ⟨s1, s2, s3, _⟩ := vd_sum h.vd
  obtain ⟨v1, v2, v3⟩ := VD_facts h.vd
  have hl := h.len
  have hd := sq_d h hi
  have hc := sq_c h hk hi
  have hz : ∀ p ∈ L.take k, 0 ≤ p ∧ p < ((List.replicate d.length (0 : Int)).length : Int) := fun p hp => by
    obtain ⟨q, hq, rfl⟩ := List.getElem_of_mem (List.mem_of_mem_take hp)
    have := h.rng q hq
    rw [List.length_replicate]
    simpa [List.getD_eq_getElem?_getD, hq] using this
  have hsum := tally_sum (L.take k) (List.replicate d.length 0) 0 zeros_mem hz (by omega) (by rw [List.length_take]; omega)
  rw [zeros_sum, List.length_take, Nat.min_eq_left hk] at hsum
  have hmem : ∀ x ∈ tally (List.replicate d.length 0) (L.take k), -240 ≤ x ∧ x ≤ 240 := by
    intro x hx
    obtain ⟨q, hq, rfl⟩ := List.getElem_of_mem hx
    have e := h.tal k hk q
    rw [tally_length, List.length_replicate] at hq
    have hc := sq_c h hk hq
    have hd := sq_d h hq
    rw [List.getD_eq_getElem?_getD, List.getElem?_eq_getElem (by rw [tally_length, List.length_replicate]; exact hq), Option.getD_some] at e
    omega
  have hw : wsum 0 (tally (List.replicate d.length 0) (L.take k)) = (k : Int) := by
    rw [wsum_eq 240 _ 0 hmem (by omega) (by rw [tally_length, List.length_replicate]; omega) (by rw [tally_length, List.length_replicate]; omega), hsum]
    omega
  have r1 := mul_range (a := d.sum) (b := cc L k i) (A := 240) (B := 40) (by omega) s3 hc.1 (by omega)
  have r2 := mul_range (a := (k : Int)) (b := d.getD i 0) (A := 240) (B := 40) (by omega) (by omega) (by omega) hd.2.1
  unfold bown dev
  rw [hw, s1, h.tal k hk i, w64 (show -9223372036854775808 ≤ d.sum * cc L k i by omega) (by omega), w64 (show -9223372036854775808 ≤ (k : Int) * d.getD i 0 by omega) (by omega), w64 (by omega) (by omega)]
theorem flat_iff {d L : List Int} (h : Sq d L) (x : Int) : x ∈ (DEVS d (List.replicate d.length 0) L).flatten ↔ ∃ k i, 1 ≤ k ∧ k ≤ L.length ∧ i < d.length ∧ dev d L k i = x := by
  rw [devs_flat_mem]
  constructor
  · rintro ⟨k, hk, hx⟩
    obtain ⟨i, hi, rfl⟩ := List.mem_map.1 hx
    have hi := List.mem_range.1 hi
    exact ⟨k + 1, i, by omega, by omega, hi, (beh_dev h (by omega) i hi).symm⟩
  · rintro ⟨k, i, k0, k1, hi, rfl⟩
    refine ⟨k - 1, by omega, List.mem_map.2 ⟨i, List.mem_range.2 hi, ?_⟩⟩
    rw [show k - 1 + 1 = k by omega]
    exact beh_dev h k1 i hi
/-! the windows, held against the sequence -/
theorem fit_step {d L : List Int} (h : Sq d L) (B : Int) (hB : 0 ≤ B ∧ B ≤ 57600) (k : Nat) (hk : k < L.length) : (decide (early1 d.sum B (d.getD (L.getD k 0).toNat 0) (cc L k (L.getD k 0).toNat).toNat ≤ (k : Int) + 1) && decide ((k : Int) + 1 ≤ late1 d.sum B (d.getD (L.getD k 0).toNat 0) (cc L k (L.getD k 0).toNat).toNat)) = fit d L B k := by
  have hr := h.rng k hk
  have hi : (L.getD k 0).toNat < d.length := by omega
  have hp : L.getD k 0 = ((L.getD k 0).toNat : Int) := by omega
  generalize (L.getD k 0).toNat = i at hi hp
  have hd := sq_d h hi
  have hc := sq_c h (show k ≤ L.length by omega) hi
  have hl := h.len
  have e1 : ((cc L k i).toNat : Int) = cc L k i := by omega
  have e2 : ((k + 1 : Nat) : Int) * d.getD i 0 = ((k : Int) + 1) * d.getD i 0 := by rw [Int.natCast_succ]
  have c1 := ceil_le (a := d.sum * (cc L k i + 1) - B) (b := d.getD i 0) (k := (k : Int) + 1) (by omega)
  have c2 := le_floor1 (a := B + d.sum * cc L k i) (b := d.getD i 0) (k := (k : Int) + 1) (by omega)
  rw [show (k : Int) + 1 - 1 = k by omega] at c2
  have hcs : cc L (k + 1) i = cc L k i + 1 := by rw [cc_succ hk, if_pos hp]
  unfold fit
  rw [hp, Int.toNat_natCast]
  congr 1
  · rw [Bool.eq_iff_iff, decide_eq_true_iff, decide_eq_true_iff]
    unfold early1 dev
    rw [e1, e2, hcs]
    omega
  · rw [Bool.eq_iff_iff, decide_eq_true_iff, decide_eq_true_iff]
    unfold late1 dev
    rw [e1]
    omega
theorem within_l0 {d L : List Int} (h : Sq d L) (B : Int) (hB : 0 ≤ B ∧ B ≤ 57600) : ∀ (e k : Nat) (fl : Bool), e + k = L.length → Ev (fun n => laws_r8Within.l0 n L (d.map (earlyW d.sum B)) (d.map (lateW d.sum B)) (tally (List.replicate d.length 0) (L.take k)) fl k) ((fl && ((List.range L.length).drop k).all (fit d L B)), true) := by
  intro e
  induction e with
  | zero =>
    intro k fl he
    apply Ev.succ
    simp only [laws_r8Within.l0, if_neg (show ¬ (k : Int) < L.length by omega)]
    rw [List.drop_of_length_le (by simp; omega), List.all_nil, Bool.and_true]
    exact Ev.now _
  | succ e ih =>
    intro k fl he
    have hk : k < L.length := by omega
    have hr := h.rng k hk
    have hi : (L.getD k 0).toNat < d.length := by omega
    have hp : L.getD k 0 = ((L.getD k 0).toNat : Int) := by omega
    have hlen0 := h.len
    have s3 := (vd_sum h.vd).2.2.1
    have hfs := fit_step h B hB k hk
    have hcs := cc_succ hk (L.getD k 0).toNat
    rw [if_pos hp] at hcs
    have hc2 := sq_c h (show k + 1 ≤ L.length by omega) hi
    have hc := sq_c h (show k ≤ L.length by omega) hi
    have hd := sq_d h hi
    have htk := h.tal k (by omega)
    have hlen : (tally (List.replicate d.length 0) (L.take k)).length = d.length := by rw [tally_length, List.length_replicate]
    have hnext : (tally (List.replicate d.length 0) (L.take k)).set (L.getD k 0).toNat (wrap64 (cc L k (L.getD k 0).toNat + 1)) = tally (List.replicate d.length 0) (L.take (k + 1)) := by
      rw [List.take_succ_eq_append_getElem hk, tally, tally, List.foldl_append, List.foldl_cons, List.foldl_nil, bump]
      have e : L[k] = L.getD k 0 := by simp [List.getD_eq_getElem?_getD, hk]
      rw [e]
      congr 2
      have := htk (L.getD k 0).toNat
      rw [tally] at this
      rw [hp, rd_nat, this, Int.toNat_natCast]
    have hall : ((List.range L.length).drop k).all (fit d L B) = (fit d L B k && ((List.range L.length).drop (k + 1)).all (fit d L B)) := by
      rw [List.drop_eq_getElem_cons (by simp; omega), List.all_cons, List.getElem_range]
    rw [hall, ← hfs]
    generalize (L.getD k 0).toNat = i at *
    have hL8 : (d.map (earlyW d.sum B)).getD i [] = earlyW d.sum B (d.getD i 0) := getD_mapW _ 0 [] hi
    have hL9 : (d.map (lateW d.sum B)).getD i [] = lateW d.sum B (d.getD i 0) := getD_mapW _ 0 [] hi
    obtain ⟨q, hq⟩ := Int.eq_ofNat_of_zero_le hc.1
    have hE : (earlyW d.sum B (d.getD i 0)).getD q 0 = early1 d.sum B (d.getD i 0) q := getD_rangeW _ 0 (by omega)
    have hT : (lateW d.sum B (d.getD i 0)).getD q 0 = late1 d.sum B (d.getD i 0) q := getD_rangeW _ 0 (by omega)
    have hEl : (earlyW d.sum B (d.getD i 0)).length = (d.getD i 0).toNat := by simp [earlyW]
    have hTl : (lateW d.sum B (d.getD i 0)).length = (d.getD i 0).toNat := by simp [lateW]
    apply Ev.succ
    simp only [laws_r8Within.l0, if_pos (show (k : Int) < L.length by omega), if_pos (show 0 ≤ (k : Int) by omega), rd_nat, hp, if_pos (show 0 ≤ (i : Int) by omega), hlen, if_pos (show (i : Int) < d.length by omega), List.length_map, rdl_getW, hL8, hL9, htk i, hEl, hTl, if_neg (show ¬ cc L k i ≥ ((d.getD i 0).toNat : Int) by omega), if_pos hc.1, if_pos (show cc L k i < ((d.getD i 0).toNat : Int) by omega), Int.toNat_natCast, hnext, w64 (show (-9223372036854775808) ≤ (k : Int) + 1 by omega) (by omega)]
    rw [hq, Int.toNat_natCast]
    simp only [rd_nat, hE, hT]
    cases fl with
    | false =>
      simp only [Bool.false_eq_true, if_false, Bool.false_and]
      have := ih (k + 1) false (by omega)
      rw [Bool.false_and] at this
      exact this
    | true =>
      simp only [if_true, Bool.true_and]
      by_cases c1 : early1 d.sum B (d.getD i 0) q ≤ (k : Int) + 1
      · simp only [if_pos c1, decide_eq_true c1, Bool.true_and]
        exact ih (k + 1) _ (by omega)
      · simp only [if_neg c1, decide_eq_false c1, Bool.false_and]
        have := ih (k + 1) false (by omega)
        rw [Bool.false_and] at this
        exact this
theorem within_ev {d L : List Int} (h : Sq d L) (B : Int) : Ev (fun n => laws_r8Within.f n d L B) (if okB d B then ((List.range L.length).all (fit d L B), true) else (false, false)) := by
  obtain ⟨s1, s2, s3, _⟩ := vd_sum h.vd
  obtain ⟨v1, v2, v3⟩ := VD_facts h.vd
  unfold laws_r8Within.f
  refine Ev.bind (iWIN_ev d B (by omega)) ?_
  unfold WIN
  cases hb : okB d B with
  | false =>
    simp only [Bool.false_eq_true, if_false]
    apply Ev.succ
    simp only [laws_r8Within.j0, if_true]
    exact Ev.now _
  | true =>
    have hb' := hb
    simp only [okB, Bool.and_eq_true, decide_eq_true_eq] at hb'
    have r := mul_range (a := d.sum) (b := d.sum) (A := 240) (B := 240) (by omega) s3 (by omega) s3
    simp only [if_true, List.length_map, bne_self_eq_false]
    apply Ev.succ
    simp only [laws_r8Within.j0, Bool.false_eq_true, if_false, if_pos (show 0 ≤ (d.length : Int) by omega), Int.toNat_natCast, if_pos (show d.length ≤ 35184372088832 by omega)]
    have := within_l0 h B (by omega) L.length 0 true (by omega)
    rw [Bool.true_and, List.drop_zero] at this
    exact this
theorem FnWindows : laws_FnWindows.Pure := by
  intro code more _ _ hc _ _ hm
  apply Ev.rounds
  unfold laws_FnWindows.f laws_r8Long.f
  have hbyte : ∀ (l : List Int), (∀ x ∈ l, (Lit.int .u8 x).wf = true) → ∀ x ∈ l, 0 ≤ x ∧ x ≤ 255 := fun l h x hx => wfByte (h x hx)
  by_cases c1 : (code.length : Int) > 48
  · simp only [if_pos c1, Option.bind_some, if_true]
    exact Ev.now _
  simp only [if_neg c1, Option.bind_some]
  by_cases c2 : (more.length : Int) > 48
  · simp only [decide_eq_true c2, if_true]
    exact Ev.now _
  simp only [decide_eq_false c2, Bool.false_eq_true, if_false]
  obtain ⟨d, hd, hv, hd4, hd5⟩ := r8d_ev code (hbyte code hc)
  obtain ⟨s1, s2, s3, _⟩ := vd_sum hv
  obtain ⟨v1, v2, v3⟩ := VD_facts hv
  obtain ⟨L, hL, hseq, hlen⟩ := r8s_ev more d (hbyte more hm) hv s1 ⟨s2, s3⟩
  have h := sq_of hseq hlen s3
  have r := mul_range (a := d.sum) (b := d.sum) (A := 240) (B := 240) (by omega) s3 (by omega) s3
  have r1 : 1 * 1 ≤ d.sum * d.sum := Int.mul_le_mul (by omega) (by omega) (by omega) (by omega)
  refine Ev.bind hd (Ev.bind hL (Ev.bind (gd_impl d L (by omega) (by omega)) ?_))
  have hflat := flat_iff h
  simp only [GDV, DOF, hseq, if_true]
  generalize (DEVS d (List.replicate d.length 0) L).flatten = F at hflat
  have hF : ∀ x ∈ F, -(d.sum * d.sum - 1) ≤ x ∧ x ≤ d.sum * d.sum - 1 := fun x hx => by
    obtain ⟨k, i, k0, k1, hi, rfl⟩ := (hflat x).1 hx
    exact dev_bound h k0 k1 hi
  obtain ⟨g1, g2, g3⟩ := gr_spec F 0 (fun x hx => by have := hF x hx; omega) (Int.le_refl _)
  generalize GR 0 F = M at g1 g2 g3
  have hM : M ≤ d.sum * d.sum - 1 := by
    rcases g3 with e | ⟨x, hx, e | e⟩
    · omega
    · have := hF x hx; omega
    · have := hF x hx; omega
  simp only [decide_eq_false (show ¬ M < 0 by omega)]
  apply Ev.succ
  simp only [laws_FnWindows.j0, Bool.false_eq_true, if_false, w64 (show (-9223372036854775808) ≤ M - 1 by omega) (by omega)]
  refine Ev.bind (within_ev h M) (Ev.bind (within_ev h (M - 1)) ?_)
  have ok1 : okB d M = true := by
    simp only [okB, hv, Bool.true_and, decide_eq_true_eq]; omega
  have f1 := fits_most h M g2 (fun k i k0 k1 hi => g1 _ ((hflat _).2 ⟨k, i, k0, k1, hi, rfl⟩))
  simp only [ok1, f1, if_true]
  by_cases e : M = 0
  · have ok2 : okB d (M - 1) = false := by
      simp only [okB, hv, Bool.true_and, decide_eq_false_iff_not]; omega
    simp only [if_pos e, ok2, Bool.false_eq_true, if_false]
    exact Ev.now _
  · have ok2 : okB d (M - 1) = true := by
      simp only [okB, hv, Bool.true_and, decide_eq_true_eq]; omega
    have f2 := fits_less h M (by omega) (by
      rcases g3 with e' | ⟨x, hx, e'⟩
      · omega
      · obtain ⟨k, i, k0, k1, hi, rfl⟩ := (hflat x).1 hx
        exact ⟨k, i, k0, k1, hi, e'⟩)
    simp only [if_neg e, ok2, f2, if_true, Bool.not_false]
    exact Ev.now _


end Go.Proofs.Ytkcdmmegdhiabaa.Pure
