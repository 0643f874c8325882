/- Proved: the pure half of the law FnPermutations: the printed functions answer true, for every input. No condition. -/
import Derived.Test.YtlhpejabdmejbaaPFnPermutationsx10
import Derived.Test.YtlhpejabdmejbaaBase
import Derived.Test.YtlhpejabdmejbaaLists
import Derived.Test.YtlhpejabdmejbaaDbl
import Derived.Test.YtlhpejabdmejbaaTables
import Derived.Test.YtlhpejabdmejbaaCeil
import Derived.Test.YtlhpejabdmejbaaCut
import Derived.Test.YtlhpejabdmejbaaCond
import Derived.Test.YtlhpejabdmejbaaPerm
import Derived.Test.YtlhpejabdmejbaaPsum
import Derived.Test.YtlhpejabdmejbaaMix
import Derived.Test.YtlhpejabdmejbaaRnd
import Derived.Test.YtlhpejabdmejbaaPair
import Derived.Test.YtlhpejabdmejbaaSys
import Derived.Test.YtlhpejabdmejbaaFits
import Derived.Test.YtlhpejabdmejbaaSource
namespace Go.Proofs.Ytlhpejabdmejbaa.Pure
open Go.RowKit Go.Proofs.Ytlhpejabdmejbaa.PFnPermutations Go.Proofs.YtlhpejabdmejbaaW.PrintWords Go.Proofs.YtlhpejabdmejbaaW.PrintLast Go.Proofs.YtlhpejabdmejbaaW.PrintMore Go.Proofs.Ytlhpejabdmejbaa.Base
set_option linter.unusedVariables false
set_option linter.unusedSimpArgs false

/-! impl.within -/
theorem within_eq (a b c : Int) : impl_within.f a b c = some (decide (b ≤ a ∧ a ≤ c)) := by
  unfold impl_within.f
  by_cases h : b ≤ a
  · rw [if_pos h]; simp [h]
  · rw [if_neg h]; simp [h]

/-! impl.sum -/
theorem isum_l0 (l : List Int) (hl : l.length ≤ 9223372036854775806) : ∀ (d i : Nat) (acc : Int), d + i = l.length → Ev (fun k => impl_sum.l0 k acc l (l.length : Int) i) (wsum acc (l.drop i)) := by
  intro d
  induction d with
  | zero =>
    intro i acc hd
    apply Ev.succ
    simp only [impl_sum.l0, if_neg (show ¬ (i : Int) < (l.length : Int) by omega)]
    rw [List.drop_of_length_le (by omega)]
    exact Ev.now _
  | succ d ih =>
    intro i acc hd
    have hi : i < l.length := by omega
    apply Ev.succ
    simp only [impl_sum.l0, if_pos (show (i : Int) < (l.length : Int) by omega), if_pos (show 0 ≤ (i : Int) by omega), rd_get hi, w64 (show (-9223372036854775808) ≤ (i : Int) + 1 by omega) (by omega)]
    rw [List.drop_eq_getElem_cons hi]
    exact ih (i + 1) _ (by omega)
theorem isum_ev (l : List Int) (hl : l.length ≤ 9223372036854775806) : Ev (fun k => impl_sum.f k l) (wsum 0 l) := by
  have := isum_l0 l hl l.length 0 0 (by omega)
  simpa [impl_sum.f] using this

/-! impl.sums -/
theorem rdl_getS {xs : List (List Int)} {i : Nat} (h : i < xs.length) : rd_L1 xs (i : Int) = xs[i] := by
  unfold rd_L1; exact getD_get h
theorem sums_l0 (l : List (List Int)) (hl : l.length ≤ 1048576) (hr : ∀ r ∈ l, r.length ≤ 1048576) : ∀ (d i : Nat), d + i = l.length → Ev (fun k => impl_sums.l0 k ((l.take i).map (wsum 0)) l (l.length : Int) i) (l.map (wsum 0)) := by
  intro d
  induction d with
  | zero =>
    intro i hd
    apply Ev.succ
    simp only [impl_sums.l0, if_neg (show ¬ (i : Int) < (l.length : Int) by omega)]
    rw [List.take_of_length_le (by omega)]
    exact Ev.now _
  | succ d ih =>
    intro i hd
    have hi : i < l.length := by omega
    have hm := hr l[i] (List.getElem_mem hi)
    apply Ev.succ
    simp only [impl_sums.l0, if_pos (show (i : Int) < (l.length : Int) by omega), if_pos (show 0 ≤ (i : Int) by omega), rdl_getS hi, inc hi (by omega)]
    refine Ev.bind (isum_ev l[i] (by omega)) ?_
    simp only [if_pos (show ((l.take i).map (wsum 0)).length < 17592186044416 by simp; omega)]
    have := ih (i + 1) (by omega)
    rw [List.take_succ_eq_append_getElem hi, List.map_append] at this
    exact this
theorem sums_ev (l : List (List Int)) (hl : l.length ≤ 1048576) (hr : ∀ r ∈ l, r.length ≤ 1048576) : Ev (fun k => impl_sums.f k l) (l.map (wsum 0)) := by
  have := sums_l0 l hl hr l.length 0 (by omega)
  unfold impl_sums.f
  exact this

/-! impl.areWithin -/
theorem aw_l0 (l : List Int) (a b : Int) (hl : l.length ≤ 9223372036854775806) : ∀ (d i : Nat), d + i = l.length → ∃ r : Int, Ev (fun k => slices_IndexFunc_int64_int64_impl_areWithin_1.l0 k l (l.length : Int) i a b) r ∧ (decide (r ≥ 0) = !(l.drop i).all fun n => decide (a ≤ n ∧ n ≤ b)) := by
  intro d
  induction d with
  | zero =>
    intro i hd
    refine ⟨-1, ?_, ?_⟩
    · apply Ev.succ
      simp only [slices_IndexFunc_int64_int64_impl_areWithin_1.l0, if_neg (show ¬ (i : Int) < (l.length : Int) by omega)]
      exact Ev.now _
    · rw [List.drop_of_length_le (by omega)]; rfl
  | succ d ih =>
    intro i hd
    have hi : i < l.length := by omega
    obtain ⟨r, hr, he⟩ := ih (i + 1) (by omega)
    by_cases h : a ≤ l[i] ∧ l[i] ≤ b
    · refine ⟨r, ?_, ?_⟩
      · apply Ev.succ
        simp only [slices_IndexFunc_int64_int64_impl_areWithin_1.l0, if_pos (show (i : Int) < (l.length : Int) by omega), if_pos (show 0 ≤ (i : Int) by omega), rd_get hi, impl_areWithin_1.f, within_eq, decide_eq_true h, Option.bind_some, w64 (show (-9223372036854775808) ≤ (i : Int) + 1 by omega) (by omega)]
        simpa using hr
      · rw [he, List.drop_eq_getElem_cons hi, List.all_cons, decide_eq_true h, Bool.true_and]
    · refine ⟨i, ?_, ?_⟩
      · apply Ev.succ
        simp only [slices_IndexFunc_int64_int64_impl_areWithin_1.l0, if_pos (show (i : Int) < (l.length : Int) by omega), if_pos (show 0 ≤ (i : Int) by omega), rd_get hi, impl_areWithin_1.f, within_eq, decide_eq_false h, Option.bind_some]
        simpa using Ev.now _
      · rw [List.drop_eq_getElem_cons hi, List.all_cons, decide_eq_false h, Bool.false_and]; simp
theorem areWithin_ev (l : List Int) (a b : Int) (hl : l.length ≤ 9223372036854775806) : Ev (fun k => impl_areWithin.f k l a b) (l.all fun n => decide (a ≤ n ∧ n ≤ b)) := by
  obtain ⟨r, hr, he⟩ := aw_l0 l a b hl l.length 0 (by omega)
  unfold impl_areWithin.f
  simp only [slices_ContainsFunc_int64_int64_impl_areWithin_1.f, slices_IndexFunc_int64_int64_impl_areWithin_1.f]
  refine Ev.bind (Ev.bind hr (Ev.now _)) ?_
  refine (Ev.now _).to ?_
  rw [he, List.drop_zero, Bool.not_not]

/-! slices.Concat   int64,int64  -/
theorem grow_nil (n : Int) (h0 : 0 ≤ n) (h1 : n < 17592186044416) : slices_Grow_int64_int64_nil.f n = some [] := by
  unfold slices_Grow_int64_int64_nil.f
  rw [w64 (show (-9223372036854775808) ≤ n by omega) (by omega), if_neg (by omega)]
  by_cases h : n > 0
  · rw [if_pos h, if_pos (by omega), if_pos (by simp; omega)]
    simp
  · rw [if_neg h]
theorem rdl_getC {xs : List (List Int)} {i : Nat} (h : i < xs.length) : rd_L1 xs (i : Int) = xs[i] := by
  unfold rd_L1; exact getD_get h
theorem flat_take (l : List (List Int)) (i : Nat) (h : i < l.length) : (l.take (i + 1)).flatten = (l.take i).flatten ++ l[i] := by
  rw [List.take_succ_eq_append_getElem h, List.flatten_append]
  simp
theorem flat_le (l : List (List Int)) (i : Nat) : (l.take i).flatten.length ≤ l.flatten.length := by
  have := congrArg (fun l => (List.flatten l).length) (List.take_append_drop i l)
  simp only [List.flatten_append, List.length_append] at this
  omega
theorem concat_l1 (l : List (List Int)) (hl : l.length ≤ 1048576) (hf : l.flatten.length ≤ 1000000000000) : ∀ (d i : Nat), d + i = l.length → Ev (fun k => slices_Concat_int64_int64.l1 k (l.take i).flatten l (l.length : Int) i) l.flatten := by
  intro d
  induction d with
  | zero =>
    intro i hd
    apply Ev.succ
    simp only [slices_Concat_int64_int64.l1, if_neg (show ¬ (i : Int) < (l.length : Int) by omega)]
    rw [List.take_of_length_le (by omega)]
    exact Ev.now _
  | succ d ih =>
    intro i hd
    have hi : i < l.length := by omega
    have h1 := flat_take l i hi
    have h2 := flat_le l (i + 1)
    rw [h1, List.length_append] at h2
    apply Ev.succ
    simp only [slices_Concat_int64_int64.l1, if_pos (show (i : Int) < (l.length : Int) by omega), if_pos (show 0 ≤ (i : Int) by omega), rdl_getC hi, if_pos (show (l.take i).flatten.length + l[i].length < 17592186044416 by omega), inc hi (by omega), ← h1]
    exact ih (i + 1) (by omega)
theorem concat_l0 (l : List (List Int)) (hl : l.length ≤ 1048576) (hf : l.flatten.length ≤ 1000000000000) : ∀ (d i : Nat), d + i = l.length → Ev (fun k => slices_Concat_int64_int64.l0 k l ((l.take i).flatten.length : Int) l (l.length : Int) i) l.flatten := by
  intro d
  induction d with
  | zero =>
    intro i hd
    have h2 := flat_le l i
    apply Ev.succ
    simp only [slices_Concat_int64_int64.l0, if_neg (show ¬ (i : Int) < (l.length : Int) by omega), grow_nil _ (show 0 ≤ ((l.take i).flatten.length : Int) by omega) (by omega), Option.bind_some]
    exact concat_l1 l hl hf l.length 0 (by omega)
  | succ d ih =>
    intro i hd
    have hi : i < l.length := by omega
    have h1 := flat_take l i hi
    have h2 := flat_le l (i + 1)
    rw [h1, List.length_append] at h2
    have h4 := flat_le l (i + 1)
    have h3 : wrap64 (((l.take i).flatten.length : Int) + (l[i].length : Int)) = ((l.take (i + 1)).flatten.length : Int) := by rw [w64 (by omega) (by omega), h1, List.length_append]; omega
    apply Ev.succ
    simp only [slices_Concat_int64_int64.l0, if_pos (show (i : Int) < (l.length : Int) by omega), if_pos (show 0 ≤ (i : Int) by omega), rdl_getC hi, h3, if_neg (show ¬ ((l.take (i + 1)).flatten.length : Int) < 0 by omega), inc hi (by omega)]
    exact ih (i + 1) (by omega)
theorem concat_ev (l : List (List Int)) (hl : l.length ≤ 1048576) (hf : l.flatten.length ≤ 1000000000000) : Ev (fun k => slices_Concat_int64_int64.f k l) l.flatten := by
  have := concat_l0 l hl hf l.length 0 (by omega)
  unfold slices_Concat_int64_int64.f
  exact this

/-! impl.turned -/
theorem rdl_getT {xs : List (List Int)} {i : Nat} : rd_L1 xs (i : Int) = xs.getD i [] := by
  unfold rd_L1; simp
theorem rdl_headT (xs : List (List Int)) : rd_L1 xs 0 = xs.headD [] := by
  unfold rd_L1; cases xs <;> rfl
theorem rd_getDT {xs : List Int} {i : Nat} : rd xs (i : Int) = xs.getD i 0 := by
  unfold rd; simp
def tcol (l : List (List Int)) (i k : Nat) : List Int := colOf (l.take i) k
theorem turned_l1 (l : List (List Int)) (m i : Nat) (hl : l.length ≤ 1048576) (hm : m ≤ 1048576) (hi : i < l.length) (hr : (l.getD i []).length = m) {R : List (List Int)} (hs : Ev (fun k => impl_turned.l0 k (stair (tcol l) m (i + 1) 0) l (l.length : Int) ((i : Int) + 1)) R) : ∀ (d j : Nat), d + j = m → Ev (fun k => impl_turned.l1 k (stair (tcol l) m i j) l (l.length : Int) i (l.getD i []) (m : Int) j) R := by
  intro d
  induction d with
  | zero =>
    intro j hd
    apply Ev.succ
    have e : j = m := by omega
    subst e
    simp only [impl_turned.l1, if_neg (show ¬ (j : Int) < (j : Int) by omega), inc hi (by omega), stair_end]
    exact hs
  | succ d ih =>
    intro j hd
    have hj : j < m := by omega
    have hlen : (tcol l i j).length ≤ 1048576 := by simp [tcol, colOf]; omega
    apply Ev.succ
    simp only [impl_turned.l1, if_pos (show (j : Int) < (m : Int) by omega), if_pos (show 0 ≤ (j : Int) by omega), if_pos (show (j : Int) < (l.getD i []).length by omega), stair_length, rdl_getT, stair_get (tcol l) m i j j hj, if_neg (show ¬ j < j by omega), if_pos (show (tcol l i j).length < 17592186044416 by omega), inc hj (by omega), Int.toNat_natCast, rd_getDT]
    have e : tcol l i j ++ [(l.getD i []).getD j 0] = tcol l (i + 1) j := (colOf_succ l i j hi).symm
    rw [e, stair_set (tcol l) m i j hj]
    exact ih (j + 1) (by omega)
theorem turned_l0 (l : List (List Int)) (m : Nat) (hl : l.length ≤ 1048576) (hm : m ≤ 1048576) (hr : ∀ i, i < l.length → (l.getD i []).length = m) : ∀ (d i : Nat), d + i = l.length → Ev (fun k => impl_turned.l0 k (stair (tcol l) m i 0) l (l.length : Int) i) ((List.range m).map (colOf l)) := by
  intro d
  induction d with
  | zero =>
    intro i hd
    apply Ev.succ
    simp only [impl_turned.l0, if_neg (show ¬ (i : Int) < (l.length : Int) by omega)]
    refine (Ev.now _).to ?_
    rw [stair_zero]
    refine List.map_congr_left fun k _ => ?_
    rw [tcol, List.take_of_length_le (by omega)]
  | succ d ih =>
    intro i hd
    have hi : i < l.length := by omega
    apply Ev.succ
    simp only [impl_turned.l0, if_pos (show (i : Int) < (l.length : Int) by omega), if_pos (show 0 ≤ (i : Int) by omega), rdl_getT, hr i hi]
    exact turned_l1 l m i hl hm hi (hr i hi) (ih (i + 1) (by omega)) m 0 (by omega)
theorem turned_ev (l : List (List Int)) (hn : 1 ≤ l.length) (hl : l.length ≤ 1048576) (hm : (l.headD []).length ≤ 1048576) (hr : ∀ i, i < l.length → (l.getD i []).length = (l.headD []).length) : Ev (fun k => impl_turned.f k l) ((List.range (l.headD []).length).map (colOf l)) := by
  unfold impl_turned.f
  simp only [if_pos (show 0 < (l.length : Int) by omega), rdl_headT, if_pos (show 0 ≤ ((l.headD []).length : Int) by omega), Int.toNat_natCast, if_pos (show (l.headD []).length ≤ 11728124029610 by omega)]
  have := turned_l0 l (l.headD []).length hl hm hr l.length 0 (by omega)
  rw [stair_zero] at this
  have e : (List.range (l.headD []).length).map (tcol l 0) = List.replicate (l.headD []).length [] := by
    apply List.ext_getElem
    · simp
    · intro k h1 h2
      simp [tcol, colOf]
  rw [e] at this
  exact this

/-! impl.IsDoubly -/
theorem rdl_getV {xs : List (List Int)} {i : Nat} (h : i < xs.length) : rd_L1 xs (i : Int) = xs[i] := by
  unfold rd_L1; exact getD_get h
theorem rdl_headV (xs : List (List Int)) : rd_L1 xs 0 = xs.headD [] := by
  unfold rd_L1; cases xs <;> rfl
def idRow (n : Nat) (r : List Int) : Bool := decide (r.length = n) && r.all fun x => decide (0 ≤ x ∧ x ≤ 1000)
theorem id1_ev (r : List Int) (l : List (List Int)) (hr : r.length ≤ 1048576) : Ev (fun k => impl_IsDoubly_1.f k r l) (!idRow l.length r) := by
  unfold impl_IsDoubly_1.f idRow
  by_cases e : r.length = l.length
  · simp only [if_pos (show (r.length : Int) = l.length by omega), decide_eq_true e, Bool.true_and]
    exact Ev.bind (areWithin_ev r 0 1000 (by omega)) (Ev.now _)
  · simp only [if_neg (show ¬ (r.length : Int) = l.length by omega), decide_eq_false e, Bool.false_and, Bool.not_false]
    exact Ev.now _
theorem idC1_ev (l : List (List Int)) (hl : l.length ≤ 1048576) (hr : ∀ r ∈ l, r.length ≤ 1048576) : Ev (fun k => slices_ContainsFunc_int64_int64_impl_IsDoubly_1.f k l l) (!l.all (idRow l.length)) := by
  obtain ⟨r, hr1, hr2⟩ := find_loop l (fun x => !idRow l.length x) (fun k j => slices_IndexFunc_int64_int64_impl_IsDoubly_1.l0 k l (l.length : Int) j l)
    (by
      apply Ev.succ
      simp only [slices_IndexFunc_int64_int64_impl_IsDoubly_1.l0, if_neg (show ¬ (l.length : Int) < l.length by omega)]
      exact Ev.now _)
    (fun i hi hp => by
      apply Ev.succ
      simp only [slices_IndexFunc_int64_int64_impl_IsDoubly_1.l0, if_pos (show (i : Int) < (l.length : Int) by omega), if_pos (show 0 ≤ (i : Int) by omega), rdl_getV hi]
      refine Ev.bind (id1_ev l[i] l (hr _ (List.getElem_mem hi))) ?_
      simp only [hp, if_true]
      exact Ev.now _)
    (fun i hi hp r hr' => by
      apply Ev.succ
      simp only [slices_IndexFunc_int64_int64_impl_IsDoubly_1.l0, if_pos (show (i : Int) < (l.length : Int) by omega), if_pos (show 0 ≤ (i : Int) by omega), rdl_getV hi]
      refine Ev.bind (id1_ev l[i] l (hr _ (List.getElem_mem hi))) ?_
      simp only [hp, Bool.false_eq_true, if_false, inc hi (by omega)]
      exact hr')
  simp only [slices_ContainsFunc_int64_int64_impl_IsDoubly_1.f, slices_IndexFunc_int64_int64_impl_IsDoubly_1.f]
  refine Ev.bind hr1 ?_
  refine (Ev.now _).to ?_
  rw [hr2, any_not]
theorem idC2_ev (l : List Int) (a : Int) (hl : l.length ≤ 1048576) : Ev (fun k => slices_ContainsFunc_int64_int64_impl_IsDoubly_2.f k l a) (l.any fun x => x != a) := by
  obtain ⟨r, hr1, hr2⟩ := find_loop l (fun x => x != a) (fun k j => slices_IndexFunc_int64_int64_impl_IsDoubly_2.l0 k l (l.length : Int) j a)
    (by
      apply Ev.succ
      simp only [slices_IndexFunc_int64_int64_impl_IsDoubly_2.l0, if_neg (show ¬ (l.length : Int) < l.length by omega)]
      exact Ev.now _)
    (fun i hi hp => by
      apply Ev.succ
      simp only [slices_IndexFunc_int64_int64_impl_IsDoubly_2.l0, if_pos (show (i : Int) < (l.length : Int) by omega), if_pos (show 0 ≤ (i : Int) by omega), rd_get hi, impl_IsDoubly_2.f, Option.bind_some, hp, if_true]
      exact Ev.now _)
    (fun i hi hp r hr' => by
      apply Ev.succ
      simp only [slices_IndexFunc_int64_int64_impl_IsDoubly_2.l0, if_pos (show (i : Int) < (l.length : Int) by omega), if_pos (show 0 ≤ (i : Int) by omega), rd_get hi, impl_IsDoubly_2.f, Option.bind_some, hp, Bool.false_eq_true, if_false, inc hi (by omega)]
      exact hr')
  simp only [slices_ContainsFunc_int64_int64_impl_IsDoubly_2.f, slices_IndexFunc_int64_int64_impl_IsDoubly_2.f]
  refine Ev.bind hr1 ?_
  refine (Ev.now _).to ?_
  rw [hr2]
theorem id_all (l : List (List Int)) : l.all (idRow l.length) = (List.range l.length).all (drow l) := by
  rw [← all_range l (idRow l.length) []]
  rfl
theorem iDB_ev (l : List (List Int)) (hm : l.length ≤ 1048576) (hr : ∀ r ∈ l, r.length ≤ 1048576) : Ev (fun k => impl_IsDoubly.f k l) (DB l) := by
  unfold impl_IsDoubly.f DB
  simp only [impl_size_int64.f, within_eq, Option.bind_some]
  by_cases h : 1 ≤ (l.length : Int) ∧ (l.length : Int) ≤ 6
  · simp only [decide_eq_true h, if_true, Bool.true_and]
    refine Ev.bind (idC1_ev l hm hr) ?_
    rw [id_all]
    cases hv : (List.range l.length).all (drow l) with
    | false =>
      apply Ev.succ
      simp only [impl_IsDoubly.j0, Bool.not_false, if_true, Bool.false_and]
      exact Ev.now _
    | true =>
      have hd : l.headD [] = l.getD 0 [] := by cases l <;> rfl
      have hrow : ∀ i, i < l.length → (l.getD i []).length = l.length := by
        intro i hi
        have := List.all_eq_true.1 hv i (List.mem_range.2 hi)
        simp only [drow, Bool.and_eq_true, decide_eq_true_eq] at this
        exact this.1
      have h0 : (l.headD []).length = l.length := by rw [hd]; exact hrow 0 (by omega)
      apply Ev.succ
      simp only [impl_IsDoubly.j0, Bool.not_true, Bool.false_eq_true, if_false, Bool.true_and, if_pos (show 0 < (l.length : Int) by omega), rdl_headV]
      refine Ev.bind (isum_ev (l.headD []) (by omega)) ?_
      have e0 : wsum 0 (l.headD []) = dR l 0 := by rw [hd]; rfl
      rw [e0]
      have hgd : ∀ i, i < l.length → l.getD i [] ∈ l := fun i hi => by simp [List.getD_eq_getElem?_getD, hi]
      by_cases hp : dR l 0 > 0
      · simp only [if_pos hp]
        refine Ev.bind (sums_ev l hm hr) (Ev.bind (turned_ev l (by omega) hm (by omega) (fun i hi => by rw [h0]; exact hrow i hi)) ?_)
        rw [h0]
        refine Ev.bind (sums_ev _ (by simp; omega) (fun r hr' => ?_)) ?_
        · obtain ⟨k, _, rfl⟩ := List.mem_map.1 hr'
          simp [colOf]; omega
        · refine Ev.bind (concat_ev _ (by simp) (by simp; omega)) (Ev.bind (idC2_ev _ _ (by simp; omega)) ((Ev.now _).to ?_))
          rw [Bool.eq_iff_iff]
          simp only [Bool.not_eq_true', List.any_eq_false, bne_iff_ne, ne_eq, Decidable.not_not, Bool.and_eq_true, decide_eq_true_eq, List.all_eq_true, List.mem_range, List.flatten_cons, List.flatten_nil, List.append_nil, List.mem_append, List.mem_map]
          constructor
          · intro a
            have aR : ∀ i, i < l.length → dR l i = dR l 0 := fun i hi => a _ (.inl ⟨l.getD i [], hgd i hi, rfl⟩)
            have aC : ∀ i, i < l.length → dC l i = dR l 0 := fun i hi => a _ (.inr ⟨colOf l i, ⟨i, hi, rfl⟩, rfl⟩)
            have a0 := aC 0 (by omega)
            exact ⟨fun i hi => ⟨by rw [aR i hi, a0], by rw [aC i hi, a0]⟩, by omega⟩
          · rintro ⟨a, b⟩ x hx
            have a0 := (a 0 (by omega)).1
            rcases hx with ⟨r, hr', rfl⟩ | ⟨r, ⟨k, hk, rfl⟩, rfl⟩
            · obtain ⟨i, hi, rfl⟩ := List.getElem_of_mem hr'
              have := (a i hi).1
              rw [dR, show l.getD i [] = l[i] by simp [List.getD_eq_getElem?_getD, hi]] at this
              rw [this, a0]
            · have := (a k hk).2
              rw [dC] at this
              rw [this, a0]
      · simp only [if_neg hp]
        refine (Ev.now _).to ?_
        symm
        rw [Bool.eq_false_iff]
        intro hc
        simp only [Bool.and_eq_true, decide_eq_true_eq, List.all_eq_true, List.mem_range] at hc
        have := (hc.1 0 (by omega)).1
        omega
  · simp only [decide_eq_false h, Bool.false_eq_true, if_false, Bool.false_and]
    apply Ev.succ
    simp only [impl_IsDoubly.j0, if_true]
    exact Ev.now _

/-! slices.Clone   int64,int64  -/
theorem clone_eq (l : List Int) (h : l.length ≤ 1048576) : slices_Clone_int64_int64.f l = some l := by
  unfold slices_Clone_int64_int64.f
  simp only [Option.bind_some, List.length_nil, List.nil_append]
  rw [if_pos (by omega)]

/-! slices.Contains   int64,int64  -/
theorem contains_ev (l : List Int) (x : Int) (hl : l.length ≤ 1048576) : Ev (fun k => slices_Contains_int64_int64.f k l x) (decide (x ∈ l)) := by
  have key : ∀ (d i : Nat), i + d = l.length → ∃ r : Int, Ev (fun k => slices_Index_int64_int64.l0 k l x (l.length : Int) (i : Int)) r ∧ decide (r ≥ 0) = decide (x ∈ l.drop i) := by
    intro d
    induction d with
    | zero =>
      intro i hi
      refine ⟨-1, ?_, ?_⟩
      · apply Ev.succ
        simp only [slices_Index_int64_int64.l0, if_neg (show ¬ (i : Int) < (l.length : Int) by omega)]
        exact Ev.now _
      · rw [List.drop_of_length_le (by omega)]; simp
    | succ d ih =>
      intro i hi
      have hi' : i < l.length := by omega
      rw [List.drop_eq_getElem_cons hi']
      by_cases c : x = l[i]
      · refine ⟨i, ?_, by rw [decide_eq_true (show (i : Int) ≥ 0 by omega), decide_eq_true (show x ∈ l[i] :: l.drop (i + 1) by rw [c]; exact List.mem_cons_self)]⟩
        apply Ev.succ
        simp only [slices_Index_int64_int64.l0, if_pos (show (i : Int) < (l.length : Int) by omega), if_pos (show 0 ≤ (i : Int) by omega), rd_get hi', if_pos c]
        exact Ev.now _
      · obtain ⟨r, h1, h2⟩ := ih (i + 1) (by omega)
        refine ⟨r, ?_, by rw [h2]; exact decide_eq_decide.2 ⟨fun h => List.mem_cons_of_mem _ h, fun h => (List.mem_cons.1 h).resolve_left c⟩⟩
        apply Ev.succ
        simp only [slices_Index_int64_int64.l0, if_pos (show (i : Int) < (l.length : Int) by omega), if_pos (show 0 ≤ (i : Int) by omega), rd_get hi', if_neg c, inc hi' (by omega)]
        exact h1
  obtain ⟨r, h1, h2⟩ := key l.length 0 (by omega)
  rw [List.drop_zero] at h2
  unfold slices_Contains_int64_int64.f slices_Index_int64_int64.f
  exact Ev.bind h1 ((Ev.now _).to h2)

/-! impl.fitting -/
theorem rdl_fit {xs : List (List Int)} {i : Nat} : rd_L1 xs (i : Int) = xs.getD i [] := by
  unfold rd_L1; rfl
def fitR (o : Option (List Int)) : List Int × Bool := match o with | some l => (l, true) | none => ([], false)
theorem fit_loop {n : Nat} {L : List (List Int)} (hs : SQ n L) (hn : n ≤ 1000) (d : Nat) (pre : List Int) (hd : pre.length + (d + 1) = n) (ih : ∀ x : Int, Ev (fun k => impl_fitting.f k L (pre ++ [x])) (fitR (FIT L d (pre ++ [x])))) : ∀ (e c : Nat), c + e = n →
    Ev (fun k => impl_fitting.l0 k L pre (L.getD pre.length []) ((L.getD pre.length []).length : Int) (c : Int)) (fitR ((List.range' c e).findSome? fun c => if (L.getD pre.length []).getD c 0 = 0 ∨ (c : Int) ∈ pre then none else FIT L d (pre ++ [(c : Int)])))
  | 0, c, hc => by
    apply Ev.succ
    simp only [impl_fitting.l0, hs.2 _ (show pre.length < n by omega), if_neg (show ¬ (c : Int) < (n : Int) by omega), List.range'_zero, List.findSome?_nil, fitR]
    exact Ev.now _
  | e + 1, c, hc => by
    have hl := hs.2 _ (show pre.length < n by omega)
    have next := fit_loop hs hn d pre hd ih e (c + 1) (by omega)
    rw [List.range'_succ, List.findSome?_cons]
    apply Ev.succ
    simp only [impl_fitting.l0, hl, if_pos (show (c : Int) < (n : Int) by omega), if_pos (show 0 ≤ (c : Int) by omega), mrd]
    rw [hl] at next
    have skip : Ev (fun k => impl_fitting.j1 k L pre (c : Int) (L.getD pre.length []) (n : Int) (c : Int) true) (fitR ((List.range' (c + 1) e).findSome? fun c => if (L.getD pre.length []).getD c 0 = 0 ∨ (c : Int) ∈ pre then none else FIT L d (pre ++ [(c : Int)]))) := by
      apply Ev.succ
      simp only [impl_fitting.j1, if_true, inc (show c < n by omega) (by omega)]
      exact next
    by_cases c1 : (L.getD pre.length []).getD c 0 = 0
    · simp only [c1, if_true, true_or]
      exact skip
    · simp only [c1, if_false, false_or]
      refine Ev.bind (contains_ev pre (c : Int) (by omega)) ?_
      by_cases c2 : (c : Int) ∈ pre
      · simp only [decide_eq_true c2, if_pos c2]
        exact skip
      · simp only [decide_eq_false c2, if_neg c2]
        apply Ev.succ
        simp only [impl_fitting.j1, Bool.false_eq_true, if_false, clone_eq pre (by omega), Option.bind_some, if_pos (show pre.length < 17592186044416 by omega)]
        refine Ev.bind (ih (c : Int)) ?_
        cases FIT L d (pre ++ [(c : Int)]) with
        | some l => simp only [fitR, if_true]; exact Ev.now _
        | none =>
          simp only [fitR, Bool.false_eq_true, if_false, inc (show c < n by omega) (by omega)]
          exact next
theorem fitting_ev {n : Nat} {L : List (List Int)} (hs : SQ n L) (hn : n ≤ 1000) : ∀ (d : Nat) (pre : List Int), pre.length + d = n → Ev (fun k => impl_fitting.f k L pre) (fitR (FIT L d pre))
  | 0, pre, hd => by
    apply Ev.succ
    simp only [impl_fitting.f, hs.1, if_pos (show (pre.length : Int) = (n : Int) by omega), FIT, fitR]
    exact Ev.now _
  | d + 1, pre, hd => by
    have ih : ∀ x : Int, Ev (fun k => impl_fitting.f k L (pre ++ [x])) (fitR (FIT L d (pre ++ [x]))) := fun x => fitting_ev hs hn d (pre ++ [x]) (by simp; omega)
    have h1 := fit_loop hs hn d pre hd ih n 0 (by omega)
    apply Ev.succ
    simp only [impl_fitting.f, hs.1, if_neg (show ¬ (pre.length : Int) = (n : Int) by omega), if_pos (show 0 ≤ (pre.length : Int) by omega), if_pos (show (pre.length : Int) < (n : Int) by omega), rdl_fit, FIT, hs.2 _ (show pre.length < n by omega), List.range_eq_range']
    rw [hs.2 _ (show pre.length < n by omega)] at h1
    exact h1

/-! slices.Equal   int64,int64  -/
theorem sleq_l0 (a b : List Int) (hl : a.length = b.length) (hm : a.length ≤ 9223372036854775806) : ∀ (d i : Nat), d + i = a.length → Ev (fun k => slices_Equal_int64_int64.l0 k a b (a.length : Int) i) (decide (a.drop i = b.drop i)) := by
  intro d
  induction d with
  | zero =>
    intro i hd
    apply Ev.succ
    simp only [slices_Equal_int64_int64.l0, if_neg (show ¬ (i : Int) < (a.length : Int) by omega)]
    rw [List.drop_of_length_le (by omega), List.drop_of_length_le (by omega)]
    exact Ev.now _
  | succ d ih =>
    intro i hd
    have hi : i < a.length := by omega
    have hi' : i < b.length := by omega
    apply Ev.succ
    simp only [slices_Equal_int64_int64.l0, if_pos (show (i : Int) < (a.length : Int) by omega), if_pos (show 0 ≤ (i : Int) by omega), if_pos (show (i : Int) < (b.length : Int) by omega), rd_get hi, rd_get hi', w64 (show (-9223372036854775808) ≤ (i : Int) + 1 by omega) (by omega)]
    rw [List.drop_eq_getElem_cons hi, List.drop_eq_getElem_cons hi']
    by_cases h : a[i] = b[i]
    · simp only [if_pos h]
      exact (ih (i + 1) (by omega)).to (by simp only [List.cons.injEq, h, true_and])
    · simp only [if_neg h]
      exact (Ev.now _).to (by simp only [List.cons.injEq, h, false_and, decide_false])
theorem slEqual_ev (a b : List Int) (hm : a.length ≤ 9223372036854775806) : Ev (fun k => slices_Equal_int64_int64.f k a b) (decide (a = b)) := by
  unfold slices_Equal_int64_int64.f
  by_cases h : a.length = b.length
  · simp only [if_pos (show (a.length : Int) = (b.length : Int) by omega)]
    simpa using sleq_l0 a b h hm a.length 0 (by omega)
  · simp only [if_neg (show ¬ (a.length : Int) = (b.length : Int) by omega)]
    exact (Ev.now _).to (by symm; simp; intro e; exact h (by rw [e]))

/-! impl.PermutationMixture -/
theorem rdl_s {xs : List (List Int)} {i : Nat} (h : i < xs.length) : rd_L1 xs (i : Int) = xs[i] := by
  unfold rd_L1; exact getD_get h
theorem am1_ev (r x : List Int) (hr : r.length ≤ 1048576) : Ev (fun k => impl_Mixture_addTo_1.f k r x) (decide (r = x)) := by
  unfold impl_Mixture_addTo_1.f
  exact Ev.bind (slEqual_ev r x (by omega)) (Ev.now _)
theorem amI_l0 (L : List (List Int)) (x : List Int) (hl : L.length ≤ 1048576) (hr : ∀ r ∈ L, r.length ≤ 1048576) : ∀ (d i : Nat), d + i = L.length → (∀ j, j < i → L.getD j [] ≠ x) → Ev (fun k => slices_IndexFunc_int64_int64_impl_Mixture_addTo_1.l0 k L (L.length : Int) (i : Int) x) (if fidx L x < L.length then (fidx L x : Int) else -1) := by
  intro d
  induction d with
  | zero =>
    intro i hd hj
    have e : i = L.length := by omega
    subst e
    have hf : fidx L x = L.length := fidx_eq L x L.length hj (Nat.le_refl _) (fun h => absurd h (Nat.lt_irrefl _))
    rw [if_neg (by omega)]
    apply Ev.succ
    simp only [slices_IndexFunc_int64_int64_impl_Mixture_addTo_1.l0, if_neg (show ¬ (L.length : Int) < L.length by omega)]
    exact Ev.now _
  | succ d ih =>
    intro i hd hj
    have hi : i < L.length := by omega
    have g : L.getD i [] = L[i] := by simp [List.getD_eq_getElem?_getD, hi]
    apply Ev.succ
    simp only [slices_IndexFunc_int64_int64_impl_Mixture_addTo_1.l0, if_pos (show (i : Int) < L.length by omega), if_pos (show 0 ≤ (i : Int) by omega), rdl_s hi]
    refine Ev.bind (am1_ev L[i] x (hr _ (List.getElem_mem hi))) ?_
    by_cases c : L[i] = x
    · have hf : fidx L x = i := fidx_eq L x i hj (by omega) (fun _ => by rw [g]; exact c)
      simp only [decide_eq_true c, if_true]
      rw [hf, if_pos hi]
      exact Ev.now _
    · simp only [decide_eq_false c, Bool.false_eq_true, if_false, inc hi (by omega)]
      exact ih (i + 1) (by omega) (fun j hj' => by
        by_cases e : j = i
        · subst e; rw [g]; exact c
        · exact hj j (by omega))
theorem addTo_ev (W : List Int) (L : List (List Int)) (x : List Int) (w : Int) (hl : L.length ≤ 1048575) (hr : ∀ r ∈ L, r.length ≤ 1048576) (hwl : W.length = L.length) (hw : ∀ y ∈ W, 0 ≤ y ∧ y ≤ 1000000000) (hw2 : 0 ≤ w ∧ w ≤ 1000000000) : Ev (fun k => impl_Mixture_addTo.f k W L x w) (addM W L x w) := by
  unfold impl_Mixture_addTo.f addM slices_IndexFunc_int64_int64_impl_Mixture_addTo_1.f
  refine Ev.bind (amI_l0 L x (by omega) hr L.length 0 (by omega) (fun j hj => absurd hj (Nat.not_lt_zero _))) ?_
  by_cases c : fidx L x < L.length
  · have hb := hw (W.getD (fidx L x) 0) (getD_mem (by omega))
    simp only [if_pos c, if_neg (show ¬ ((fidx L x : Nat) : Int) < 0 by omega), if_pos (show 0 ≤ ((fidx L x : Nat) : Int) by omega), if_pos (show ((fidx L x : Nat) : Int) < (W.length : Int) by omega), mrd, w64 (show (-9223372036854775808) ≤ W.getD (fidx L x) 0 + w by omega) (by omega), Int.toNat_natCast]
    exact Ev.now _
  · simp only [if_neg c, if_pos (show (-1 : Int) < 0 by omega), Option.bind_some, List.length_singleton, if_pos (show L.length + 1 < 5864062014805 by omega), if_pos (show W.length + 1 < 17592186044416 by omega)]
    exact Ev.now _
theorem own_l0 {n : Nat} (L : List (List Int)) (hl : L.length ≤ 1000) (hr : ∀ r ∈ L, r.length ≤ 1048576) : ∀ (d i : Nat), i + d = L.length → Ev (fun k => impl_ownRows.l0 k (L.take i) L (L.length : Int) (i : Int)) L
  | 0, i, hi => by
    apply Ev.succ
    simp only [impl_ownRows.l0, if_neg (show ¬ (i : Int) < (L.length : Int) by omega)]
    exact (Ev.now _).to (List.take_of_length_le (by omega))
  | d + 1, i, hi => by
    have ih := own_l0 (n := n) L hl hr d (i + 1) (by omega)
    have hi' : i < L.length := by omega
    apply Ev.succ
    simp only [impl_ownRows.l0, if_pos (show (i : Int) < (L.length : Int) by omega), if_pos (show 0 ≤ (i : Int) by omega), rdl_s hi', clone_eq L[i] (hr _ (List.getElem_mem hi')), Option.bind_some, if_pos (show (L.take i).length < 5864062014805 by rw [List.length_take]; omega), inc hi' (by omega)]
    rw [List.take_succ_eq_append_getElem hi'] at ih
    exact ih
theorem ownRows_ev (L : List (List Int)) (hl : L.length ≤ 1000) (hr : ∀ r ∈ L, r.length ≤ 1048576) : Ev (fun k => impl_ownRows.f k L) L := by
  have := own_l0 (n := 0) L hl hr L.length 0 (by omega)
  unfold impl_ownRows.f
  exact this
theorem rdl_g {xs : List (List Int)} {i : Nat} : rd_L1 xs (i : Int) = xs.getD i [] := by
  unfold rd_L1; rfl
theorem rd_pf {n : Nat} {L : List (List Int)} {l : List Int} (hl : ORD l n) {i : Nat} (hi : i < n) : rd (L.getD i []) (l.getD i 0) = en L i (pf l i) := by
  unfold rd en pf; rfl
/-- The least along the list. -/
theorem pm_l1 {n : Nat} {L : List (List Int)} {l : List Int} (hs : SQ n L) (hn : n ≤ 1000) (hl : ORD l n) (W : List Int) (ls : List (List Int)) {s : List Int × List (List Int) × Bool} (h : Ev (fun k => impl_PermutationMixture.l2 k L (lst L l n) l (n : Int) 0 W ls) s) : ∀ (d i : Nat), i + d = n → Ev (fun k => impl_PermutationMixture.l1 k L l (lst L l i) l (n : Int) (i : Int) W ls) s
  | 0, i, hi => by
    obtain rfl : i = n := by omega
    apply Ev.succ
    simp only [impl_PermutationMixture.l1, if_neg (show ¬ (i : Int) < (i : Int) by omega), hl.1]
    exact h
  | d + 1, i, hi => by
    have ih := pm_l1 hs hn hl W ls h d (i + 1) (by omega)
    have hi' : i < n := by omega
    have ho := ord_get hl hi'
    apply Ev.succ
    simp only [impl_PermutationMixture.l1, if_pos (show (i : Int) < (n : Int) by omega), if_pos (show 0 ≤ (i : Int) by omega), hl.1, hs.1, mrd, rdl_g, if_pos ho.1, hs.2 i hi', if_pos ho.2.1, rd_pf hl hi', inc hi' (by omega)]
    exact ih
/-- Taking away. -/
theorem pm_l2 {n : Nat} {L : List (List Int)} {l : List Int} {w : Int} (hs : SQ n L) (hn : n ≤ 1000) (hl : ORD l n) (hb : ∀ i c, i < n → c < n → 0 ≤ en L i c ∧ en L i c ≤ 1000000) (hw : 0 ≤ w ∧ w ≤ 1000000) (W : List Int) (ls : List (List Int)) {s : List Int × List (List Int) × Bool} (h : Ev (fun k => (impl_Mixture_addTo.f k W ls l w).bind fun bt => impl_PermutationMixture.l0 k (addP l (-w) L n) bt.1 bt.2) s) : ∀ (d i : Nat), i + d = n → Ev (fun k => impl_PermutationMixture.l2 k (addP l (-w) L i) w l (n : Int) (i : Int) W ls) s
  | 0, i, hi => by
    obtain rfl : i = n := by omega
    apply Ev.succ
    simp only [impl_PermutationMixture.l2, if_neg (show ¬ (i : Int) < (i : Int) by omega)]
    exact h
  | d + 1, i, hi => by
    have ih := pm_l2 hs hn hl hb hw W ls h d (i + 1) (by omega)
    have hi' : i < n := by omega
    have ho := ord_get hl hi'
    have hsq := addP_sq (p := l) (w := -w) hs i (by omega)
    have he := addP_en hs (w := -w) (fun i hi => (ord_get hl hi).2.2.2) i (by omega) i (pf l i) hi' ho.2.2.2
    rw [if_neg (Nat.lt_irrefl _), Int.add_zero] at he
    have hbb := hb i (pf l i) hi' ho.2.2.2
    apply Ev.succ
    simp only [impl_PermutationMixture.l2, if_pos (show (i : Int) < (n : Int) by omega), if_pos (show 0 ≤ (i : Int) by omega), hl.1, hsq.1, mrd, rdl_g, if_pos ho.1, hsq.2 i hi', if_pos ho.2.1, rd_pf hl hi', inc hi' (by omega), he, w64 (show (-9223372036854775808) ≤ en L i (pf l i) - w by omega) (by omega), Int.toNat_natCast]
    rw [addP] at ih
    rw [show en (addP l (-w) L i) i (l.getD i 0).toNat = en L i (pf l i) from he, ← Int.sub_eq_add_neg] at ih
    exact ih
theorem addM_new (W : List Int) (L : List (List Int)) (r : List Int) (w : Int) (h : ∀ q, q < L.length → L.getD q [] ≠ r) : addM W L r w = (W ++ [w], L ++ [r]) := by
  unfold addM
  rw [if_neg (fun c => h _ c (fidx_lt L r c))]
/-- The rounds. -/
theorem pm_l0 {n : Nat} {L0 : List (List Int)} {S : Int} (hn : 1 ≤ n ∧ n ≤ 40) (hS : S ≤ 1000000) : ∀ (k : Nat) (L : List (List Int)) (W : List Int) (ls : List (List Int)) (s : Int), PI n L0 S L W ls s → s ≤ k → Ev (fun k => impl_PermutationMixture.l0 k L W ls) ((PMF n k L W ls).1, (PMF n k L W ls).2, true) := by
  intro k
  have hsum : ∀ {L W ls s}, PI n L0 S L W ls s → 0 ≤ s ∧ s ≤ S := by
    intro L W ls s h
    have h1 := h.even.2.2.1 0 (by omega)
    have h2 := sumN_nonneg (fun c hc => h.even.2.1 0 c (by omega) hc)
    have h3 := h.sum
    have h4 : 0 ≤ W.sum := by
      have := (mem_le_sum h.pos).2
      omega
    omega
  have stop : ∀ {L W ls}, PI n L0 S L W ls 0 → Ev (fun k => impl_PermutationMixture.l0 k L W ls) (W, ls, true) := by
    intro L W ls h
    apply Ev.succ
    simp only [impl_PermutationMixture.l0, h.even.1.1, if_pos (show 0 < (n : Int) by omega)]
    have h0 : rd_L1 L 0 = L.getD 0 [] := rdl_g (i := 0)
    rw [h0]
    refine Ev.bind (isum_ev (L.getD 0 []) (by rw [h.even.1.2 0 (by omega)]; omega)) ?_
    rw [even_sum h.even (by omega) (by omega) (by omega)]
    simp only [if_neg (show ¬ (0 : Int) > 0 by omega)]
    exact Ev.now _
  induction k with
  | zero =>
    intro L W ls s h hk
    have := hsum h
    obtain rfl : s = 0 := by omega
    exact stop h
  | succ k ih =>
    intro L W ls s h hk
    have hb := hsum h
    by_cases c : s = 0
    · subst c
      rw [PMF, fit_zero h.even hn.1]
      exact stop h
    · obtain ⟨l, hf, hg, hl⟩ := fit_ex h.even (by omega)
      have hlo := good_ord hg hl
      have hnz : ∀ i, i < n → en L i (pf l i) ≠ 0 := fun i hi => (hg.2.2 i (by omega)).2.2
      obtain ⟨a, b, b2⟩ := pi_step h hn.1 hlo hnz
      rw [PMF, hf]
      have hcount := pi_count h hn.1
      have hc2 : (n - 1) * (n - 1) ≤ 1600 := by
        have := Nat.mul_le_mul (show n - 1 ≤ 40 by omega) (show n - 1 ≤ 40 by omega)
        omega
      have hadd := addTo_ev W ls l (lst L l n) (by omega) (fun r hr => by have := (h.ord r hr).1; omega) h.len (fun y hy => by
        have := h.pos y hy
        have := (mem_le_sum h.pos).1 y hy
        have := h.sum
        omega) (by omega)
      rw [addM_new _ _ _ _ (pi_fit h hlo hnz)] at hadd
      have h2 := pm_l2 (L := L) (l := l) (w := lst L l n) h.even.1 (by omega) hlo (fun i c hi hc => by have := even_bnd h.even hi hc; omega) (by omega) W ls (Ev.bind hadd (ih _ _ _ _ a (by omega))) n 0 (by omega)
      have h1 := pm_l1 h.even.1 (by omega) hlo W ls h2 n 0 (by omega)
      have ho := ord_get hlo (show 0 < n by omega)
      apply Ev.succ
      have h0 : rd_L1 L 0 = L.getD 0 [] := rdl_g (i := 0)
      simp only [impl_PermutationMixture.l0, h.even.1.1, if_pos (show 0 < (n : Int) by omega), h0]
      refine Ev.bind (isum_ev (L.getD 0 []) (by rw [h.even.1.2 0 (by omega)]; omega)) ?_
      rw [even_sum h.even (by omega) (by omega) (by omega)]
      simp only [if_pos (show s > 0 by omega), if_pos (show 0 ≤ (n : Int) by omega), Int.toNat_natCast, if_pos (show n ≤ 35184372088832 by omega)]
      refine Ev.bind (fitting_ev h.even.1 (by omega) n [] (by simp)) ?_
      have hr0 : rd l 0 = l.getD 0 0 := rfl
      simp only [hf, fitR, hl, if_pos (show 0 < (n : Int) by omega), hr0, if_pos ho.1, h.even.1.2 0 (by omega), if_pos ho.2.1]
      rw [show rd (L.getD 0 []) (l.getD 0 0) = lst L l 0 from rfl]
      exact h1

/-! spec.l00Src).next -/
theorem rd_byte {c : List Int} (hc : ∀ x ∈ c, 0 ≤ x ∧ x ≤ 255) (i : Int) : 0 ≤ rd c i ∧ rd c i ≤ 255 := by
  unfold rd
  by_cases h : i.toNat < c.length
  · rw [List.getD_eq_getElem?_getD, List.getElem?_eq_getElem h]
    exact hc _ (List.getElem_mem h)
  · rw [List.getD_eq_getElem?_getD, List.getElem?_eq_none (by omega)]
    simp
theorem next_ok (c : List Int) (a s : Int) (hc : ∀ x ∈ c, 0 ≤ x ∧ x ≤ 255) (h0 : 0 ≤ a) (h1 : a ≤ 4611686018427387904) : ∃ v s', spec_l00Src_next.f c a s = some (v, a + 1, s') ∧ 0 ≤ v ∧ v ≤ 255 := by
  have hb := rd_byte hc a
  have e1 : wrap64 (a + 1) = a + 1 := w64 (by omega) (by omega)
  have hv : ∀ X : Int, 0 ≤ wrap64 (Go.bits .and .u64 ((IntKind.u64.wrap X) / 1099511627776) 255) ∧ wrap64 (Go.bits .and .u64 ((IntKind.u64.wrap X) / 1099511627776) 255) ≤ 255 := by
    intro X
    have h := u64_range X
    generalize IntKind.u64.wrap X = Y at h
    rw [bits255 _ (by omega) (by omega), w64 (by omega) (by omega)]
    omega
  unfold spec_l00Src_next.f
  by_cases h : a < (c.length : Int)
  · rw [if_pos h, if_pos h0, e1, if_pos (by omega), w64 (by omega) (by omega)]
    exact ⟨_, _, rfl, hb.1, hb.2⟩
  · rw [if_neg h, e1, if_neg (by omega)]
    exact ⟨_, _, rfl, (hv _).1, (hv _).2⟩

/-! spec.l00Src).pick -/
theorem pick_ok (c : List Int) (a s n : Int) (hc : ∀ x ∈ c, 0 ≤ x ∧ x ≤ 255) (h0 : 0 ≤ a) (h1 : a ≤ 4611686018427387900) (hn : 1 ≤ n) : ∃ v a' s', spec_l00Src_pick.f c a s n = some (v, a', s') ∧ 0 ≤ v ∧ v < n ∧ a ≤ a' ∧ a' ≤ a + 2 := by
  have hm : ∀ x : Int, 0 ≤ x → 2 ≤ n → 0 ≤ x.tmod n ∧ x.tmod n < n := fun x hx h2 => ⟨Int.tmod_nonneg n hx, Int.tmod_lt_of_pos x (by omega)⟩
  unfold spec_l00Src_pick.f
  by_cases h : n ≤ 1
  · rw [if_pos h]
    exact ⟨_, _, _, rfl, by omega, by omega, by omega, by omega⟩
  · rw [if_neg h]
    obtain ⟨v, s1, e, v0, v1⟩ := next_ok c a s hc h0 (by omega)
    rw [e, Option.bind_some]
    by_cases h2 : n > 200
    · obtain ⟨v', s2, e2, v2, v3⟩ := next_ok c (a + 1) s1 hc (by omega) (by omega)
      rw [if_pos h2, e2, Option.bind_some, if_neg (by omega), w64 (show -9223372036854775808 ≤ v * 256 by omega) (by omega), w64 (by omega) (by omega)]
      have := hm (v * 256 + v') (by omega) (by omega)
      exact ⟨_, _, _, rfl, this.1, this.2, by show a ≤ a + 1 + 1; omega, by show a + 1 + 1 ≤ a + 2; omega⟩
    · rw [if_neg h2, if_neg (by omega)]
      have := hm v v0 (by omega)
      exact ⟨_, _, _, rfl, this.1, this.2, by show a ≤ a + 1; omega, by show a + 1 ≤ a + 2; omega⟩

/-! spec.l04All -/
theorem all4_l0 (n : Nat) (hn : n ≤ 1000) : ∀ (e i : Nat), e + i = n → Ev (fun k => spec_l04All.l0 k (n : Int) ((List.range i).map fun j : Nat => (j : Int)) (i : Int)) ((List.range n).map fun j : Nat => (j : Int)) := by
  intro e
  induction e with
  | zero =>
    intro i hi
    have e : i = n := by omega
    subst e
    apply Ev.succ
    simp only [spec_l04All.l0, if_neg (show ¬ (i : Int) < (i : Int) by omega)]
    exact Ev.now _
  | succ e ih =>
    intro i hi
    have h := ih (i + 1) (by omega)
    rw [List.range_succ, List.map_append] at h
    apply Ev.succ
    simp only [spec_l04All.l0, if_pos (show (i : Int) < (n : Int) by omega), if_pos (show ((List.range i).map fun j : Nat => (j : Int)).length < 17592186044416 by simp; omega), inc (show i < n by omega) (by omega)]
    exact h
theorem all4_ev (n : Nat) (hn : n ≤ 1000) : Ev (fun k => spec_l04All.f k (n : Int)) ((List.range n).map fun j : Nat => (j : Int)) := all4_l0 n hn n 0 (by omega)

/-! spec.l06DrawOrder -/
theorem dor_l0 (c : List Int) (hc : ∀ x ∈ c, 0 ≤ x ∧ x ≤ 255) (n : Nat) (hn : n ≤ 40) : ∀ (e : Nat) (i : Int) (o : List Int) (a s : Int), (i = e ∨ (e = 0 ∧ i ≤ 0)) → e ≤ n - 1 → o.length = n → (∀ x ∈ o, 0 ≤ x ∧ x < n) → 0 ≤ a → a + 2 * e ≤ 4000 → ∃ (r : List Int) (a' s' : Int), Ev (fun k => spec_l06DrawOrder.l0 k o i c a s) (r, a', s') ∧ r.length = n ∧ (∀ x ∈ r, 0 ≤ x ∧ x < n) ∧ a ≤ a' ∧ a' ≤ a + 2 * e := by
  intro e
  induction e with
  | zero =>
    intro i o a s hi _ hl hx _ _
    refine ⟨o, a, s, ?_, hl, hx, by omega, by omega⟩
    apply Ev.succ
    simp only [spec_l06DrawOrder.l0, if_neg (show ¬ i > 0 by omega)]
    exact Ev.now _
  | succ e ih =>
    intro i o a s hi he hl hx h0 h1
    have hi : i = (e : Int) + 1 := by omega
    have hen : e + 1 < n := by omega
    obtain ⟨v, a1, s1, hp, v0, v1, q0, q1⟩ := pick_ok c a s (i + 1) hc h0 (by omega) (by omega)
    obtain ⟨m, hm⟩ := Int.eq_ofNat_of_zero_le v0
    have hm' : m < o.length := by omega
    have g1 : rd o i ∈ o := by rw [show i = ((e + 1 : Nat) : Int) by omega, rd_get (show e + 1 < o.length by omega)]; exact List.getElem_mem _
    have g2 : rd o v ∈ o := by rw [hm]; exact (rd_get hm') ▸ List.getElem_mem hm'
    obtain ⟨r, a', s', hr, hr1, hr2, hr3, hr4⟩ := ih (i - 1) ((o.set v.toNat (rd o i)).set i.toNat (rd o v)) a1 s1 (by omega) (by omega) (by simp; omega) (fun x hx' => by
      rcases List.mem_or_eq_of_mem_set hx' with h | h
      · rcases List.mem_or_eq_of_mem_set h with h | h
        · exact hx x h
        · rw [h]; exact hx _ g1
      · rw [h]; exact hx _ g2) (by omega) (by omega)
    refine ⟨r, a', s', ?_, hr1, hr2, by omega, by omega⟩
    apply Ev.succ
    simp only [spec_l06DrawOrder.l0, if_pos (show i > 0 by omega), w64 (show (-9223372036854775808) ≤ i + 1 by omega) (by omega), hp, Option.bind_some, if_pos v0, if_pos (show v < (o.length : Int) by omega), if_pos (show 0 ≤ i by omega), if_pos (show i < (o.length : Int) by omega), w64 (show (-9223372036854775808) ≤ i - 1 by omega) (by omega)]
    exact hr
theorem dor_ev (c : List Int) (hc : ∀ x ∈ c, 0 ≤ x ∧ x ≤ 255) (n : Nat) (hn : n ≤ 40) (a s : Int) (h0 : 0 ≤ a) (h1 : a ≤ 1000) : ∃ (r : List Int) (a' s' : Int), Ev (fun k => spec_l06DrawOrder.f k c a s (n : Int)) (r, a', s') ∧ r.length = n ∧ (∀ x ∈ r, 0 ≤ x ∧ x < n) ∧ a ≤ a' ∧ a' ≤ a + 80 := by
  obtain ⟨r, a', s', hr, hr1, hr2, hr3, hr4⟩ := dor_l0 c hc n hn (n - 1) ((n : Int) - 1) ((List.range n).map fun j : Nat => (j : Int)) a s (by omega) (by omega) (by simp) (fun x hx => by
    obtain ⟨j, hj, rfl⟩ := List.mem_map.1 hx
    have := List.mem_range.1 hj
    omega) h0 (by omega)
  refine ⟨r, a', s', ?_, hr1, hr2, hr3, by omega⟩
  unfold spec_l06DrawOrder.f
  refine Ev.bind (all4_ev n (by omega)) ?_
  simp only [w64 (show (-9223372036854775808) ≤ (n : Int) - 1 by omega) (by omega)]
  exact hr
theorem dorp_l0 (c : List Int) (hc : ∀ x ∈ c, 0 ≤ x ∧ x ≤ 255) (n : Nat) (hn : n ≤ 40) : ∀ (e : Nat) (i : Int) (o : List Int) (a s : Int), (i = e ∨ (e = 0 ∧ i ≤ 0)) → e ≤ n - 1 → o.length = n → 0 ≤ a → a + 2 * e ≤ 4000 → ∃ (r : List Int) (a' s' : Int), Ev (fun k => spec_l06DrawOrder.l0 k o i c a s) (r, a', s') ∧ r.Perm o := by
  intro e
  induction e with
  | zero =>
    intro i o a s hi _ hl _ _
    refine ⟨o, a, s, ?_, List.Perm.refl _⟩
    apply Ev.succ
    simp only [spec_l06DrawOrder.l0, if_neg (show ¬ i > 0 by omega)]
    exact Ev.now _
  | succ e ih =>
    intro i o a s hi he hl h0 h1
    have hi : i = (e : Int) + 1 := by omega
    obtain ⟨v, a1, s1, hp, v0, v1, q0, q1⟩ := pick_ok c a s (i + 1) hc h0 (by omega) (by omega)
    obtain ⟨m, hm⟩ := Int.eq_ofNat_of_zero_le v0
    have hm' : m < o.length := by omega
    have he' : e + 1 < o.length := by omega
    have g1 : rd o i = o[e + 1] := by rw [show i = ((e + 1 : Nat) : Int) by omega, rd_get he']
    have g2 : rd o v = o[m] := by rw [hm]; exact rd_get hm'
    obtain ⟨r, a', s', hr, hr1⟩ := ih (i - 1) ((o.set v.toNat (rd o i)).set i.toNat (rd o v)) a1 s1 (by omega) (by omega) (by simp; omega) (by omega) (by omega)
    have hsw := swap_perm o m (e + 1) hm' he'
    refine ⟨r, a', s', ?_, hr1.trans ?_⟩
    · apply Ev.succ
      simp only [spec_l06DrawOrder.l0, if_pos (show i > 0 by omega), w64 (show (-9223372036854775808) ≤ i + 1 by omega) (by omega), hp, Option.bind_some, if_pos v0, if_pos (show v < (o.length : Int) by omega), if_pos (show 0 ≤ i by omega), if_pos (show i < (o.length : Int) by omega), w64 (show (-9223372036854775808) ≤ i - 1 by omega) (by omega)]
      exact hr
    · rw [g1, g2, hm, Int.toNat_natCast, show i.toNat = e + 1 by omega]
      exact hsw
theorem dorp_ev (c : List Int) (hc : ∀ x ∈ c, 0 ≤ x ∧ x ≤ 255) (n : Nat) (hn : n ≤ 40) (a s : Int) (h0 : 0 ≤ a) (h1 : a ≤ 1000) : ∃ (r : List Int) (a' s' : Int), Ev (fun k => spec_l06DrawOrder.f k c a s (n : Int)) (r, a', s') ∧ r.Perm (upI n) := by
  obtain ⟨r, a', s', hr, hr1⟩ := dorp_l0 c hc n hn (n - 1) ((n : Int) - 1) (upI n) a s (by omega) (by omega) (upI_length n) h0 (by omega)
  refine ⟨r, a', s', ?_, hr1⟩
  unfold spec_l06DrawOrder.f
  refine Ev.bind (all4_ev n (by omega)) ?_
  simp only [w64 (show (-9223372036854775808) ≤ (n : Int) - 1 by omega) (by omega)]
  exact hr

/-! spec.R8Rows -/
theorem rdl_r8r {xs : List (List Int)} {i : Nat} : rd_L1 xs (i : Int) = xs.getD i [] := by
  unfold rd_L1; rfl
theorem rd_pf8 {L : List (List Int)} {l : List Int} {i : Nat} : rd (L.getD i []) (l.getD i 0) = en L i (pf l i) := by
  unfold rd en pf; rfl
theorem r8r_l2 {n : Nat} {L : List (List Int)} {l : List Int} {w : Int} (hs : SQ n L) (hn : n ≤ 1000) (hl : ORD l n) (hb : ∀ i c, i < n → c < n → 0 ≤ en L i c ∧ en L i c ≤ 1000000) (hw : 0 ≤ w ∧ w ≤ 1000000) {x7 a s : Int} {c : List Int} {res : List (List Int)} (h : Ev (fun k => spec_R8Rows.l1 k (n : Int) (addP l w L n) (wrap64 (x7 - 1)) c a s) res) : ∀ (d i : Nat), i + d = n → Ev (fun k => spec_R8Rows.l2 k (n : Int) (addP l w L i) x7 l w (i : Int) c a s) res
  | 0, i, hi => by
    obtain rfl : i = n := by omega
    apply Ev.succ
    simp only [spec_R8Rows.l2, if_neg (show ¬ (i : Int) < (i : Int) by omega)]
    exact h
  | d + 1, i, hi => by
    have ih := r8r_l2 hs hn hl hb hw h d (i + 1) (by omega)
    have hi' : i < n := by omega
    have ho := ord_get hl hi'
    have hsq := addP_sq (p := l) (w := w) hs i (by omega)
    have he := addP_en hs (w := w) (fun i hi => (ord_get hl hi).2.2.2) i (by omega) i (pf l i) hi' ho.2.2.2
    rw [if_neg (Nat.lt_irrefl _), Int.add_zero] at he
    have hbb := hb i (pf l i) hi' ho.2.2.2
    apply Ev.succ
    simp only [spec_R8Rows.l2, if_pos (show (i : Int) < (n : Int) by omega), if_pos (show 0 ≤ (i : Int) by omega), hl.1, hsq.1, mrd, rdl_r8r, if_pos ho.1, hsq.2 i hi', if_pos ho.2.1, rd_pf8, inc hi' (by omega), he, w64 (show (-9223372036854775808) ≤ en L i (pf l i) + w by omega) (by omega), Int.toNat_natCast]
    rw [addP] at ih
    rw [show en (addP l w L i) i (l.getD i 0).toNat = en L i (pf l i) from he] at ih
    exact ih
theorem dor_both (c : List Int) (hc : ∀ x ∈ c, 0 ≤ x ∧ x ≤ 255) (n : Nat) (hn : n ≤ 40) (a s : Int) (h0 : 0 ≤ a) (h1 : a ≤ 1000) : ∃ (r : List Int) (a' s' : Int), Ev (fun k => spec_l06DrawOrder.f k c a s (n : Int)) (r, a', s') ∧ ORD r n ∧ a ≤ a' ∧ a' ≤ a + 80 := by
  obtain ⟨r, a', s', h, _, _, h2, h3⟩ := dor_ev c hc n hn a s h0 h1
  obtain ⟨r2, a2, s2, h4, h5⟩ := dorp_ev c hc n hn a s h0 h1
  have e := h.uniq h4
  simp only [Prod.mk.injEq] at e
  obtain ⟨rfl, rfl, rfl⟩ := e
  exact ⟨r, a', s', h, perm_ord h5, h2, h3⟩
theorem r8r_l1 (c : List Int) (hc : ∀ x ∈ c, 0 ≤ x ∧ x ≤ 255) {n : Nat} (hn : 1 ≤ n ∧ n ≤ 5) : ∀ (e : Nat) (L : List (List Int)) (t a s : Int), e ≤ 5 → EVEN n L t → 0 ≤ t → t ≤ 100 - 5 * e → 0 ≤ a → a ≤ 900 - 100 * e → ∃ (L' : List (List Int)) (t' : Int), Ev (fun k => spec_R8Rows.l1 k (n : Int) L (e : Int) c a s) L' ∧ EVEN n L' t' ∧ t + e ≤ t' ∧ t' ≤ t + 5 * e := by
  intro e
  induction e with
  | zero =>
    intro L t a s _ h _ _ _ _
    refine ⟨L, t, ?_, h, by omega, by omega⟩
    apply Ev.succ
    simp only [spec_R8Rows.l1, if_neg (show ¬ ((0 : Nat) : Int) > 0 by omega)]
    exact Ev.now _
  | succ e ihe =>
    intro L t a s he h h0 h1 a0 a1
    obtain ⟨o, a2, s2, ho, hord, b0, b1⟩ := dor_both c hc n (by omega) a s a0 (by omega)
    obtain ⟨v, a3, s3, hp, v0, v1, d0, d1⟩ := pick_ok c a2 s2 5 hc (by omega) (by omega) (by omega)
    have hb : ∀ i c, i < n → c < n → 0 ≤ en L i c ∧ en L i c ≤ 1000000 := fun i c hi hc => by
      have := even_bnd h hi hc; omega
    have hev := even_add (w := 1 + v) h hord (fun i hi => by have := hb i (pf o i) hi (ord_get hord hi).2.2.2; omega)
    obtain ⟨L', t', r1, r2, r3, r4⟩ := ihe _ (t + (1 + v)) a3 s3 (by omega) hev (by omega) (by omega) (by omega) (by omega)
    refine ⟨L', t', ?_, r2, by omega, by omega⟩
    have ew : wrap64 (((e + 1 : Nat) : Int) - 1) = (e : Int) := by rw [w64 (by omega) (by omega)]; omega
    have h2 := r8r_l2 (x7 := ((e + 1 : Nat) : Int)) h.1 (by omega) hord hb (w := 1 + v) (by omega) (c := c) (a := a3) (s := s3) (by rw [ew]; exact r1) n 0 (by omega)
    apply Ev.succ
    simp only [spec_R8Rows.l1, if_pos (show ((e + 1 : Nat) : Int) > 0 by omega)]
    refine Ev.bind ho ?_
    simp only [hp, Option.bind_some, w64 (show (-9223372036854775808) ≤ 1 + v by omega) (by omega)]
    exact h2
theorem r8r_l0 (c : List Int) {n : Nat} (hn : n ≤ 5) (a s : Int) {res : List (List Int)} (h : Ev (fun k => ((spec_l00Src_pick.f c a s 5).bind fun bt => spec_R8Rows.l1 k (n : Int) (List.replicate n (List.replicate n 0)) (wrap64 (1 + bt.1)) c bt.2.1 bt.2.2)) res) : ∀ (d i : Nat), i + d = n → Ev (fun k => spec_R8Rows.l0 k (n : Int) (List.replicate i (List.replicate n 0)) (i : Int) c a s) res
  | 0, i, hi => by
    obtain rfl : i = n := by omega
    apply Ev.succ
    simp only [spec_R8Rows.l0, if_neg (show ¬ (i : Int) < (i : Int) by omega)]
    exact h
  | d + 1, i, hi => by
    have ih := r8r_l0 c hn a s h d (i + 1) (by omega)
    apply Ev.succ
    simp only [spec_R8Rows.l0, if_pos (show (i : Int) < (n : Int) by omega), if_pos (show 0 ≤ (n : Int) by omega), Int.toNat_natCast, if_pos (show n ≤ 35184372088832 by omega), List.length_replicate, if_pos (show i < 5864062014805 by omega), inc (show i < n by omega) (by omega)]
    rw [List.replicate_succ'] at ih
    exact ih
theorem even_zero (n : Nat) : EVEN n (List.replicate n (List.replicate n 0)) 0 := by
  have hg : ∀ i, i < n → (List.replicate n (List.replicate n (0 : Int))).getD i [] = List.replicate n 0 := fun i hi => by simp [List.getD_eq_getElem?_getD, hi]
  have he : ∀ i c, i < n → c < n → en (List.replicate n (List.replicate n 0)) i c = 0 := fun i c hi hc => by
    unfold en; rw [hg i hi]; simp [List.getD_eq_getElem?_getD, hc]
  refine ⟨⟨by simp, fun i hi => by rw [hg i hi]; simp⟩, fun i c hi hc => by rw [he i c hi hc]; omega, fun i hi => ?_, fun c hc => ?_⟩
  · rw [sumN_congr (g := fun _ => 0) (fun c hc => he i c hi hc), sumN_zero]
  · rw [sumN_congr (g := fun _ => 0) (fun i hi => he i c hi hc), sumN_zero]
theorem r8r_ev (c : List Int) (hc : ∀ x ∈ c, 0 ≤ x ∧ x ≤ 255) : ∃ (L : List (List Int)) (n : Nat) (t : Int), Ev (fun k => spec_R8Rows.f k c) L ∧ (1 ≤ n ∧ n ≤ 5) ∧ EVEN n L t ∧ 1 ≤ t ∧ t ≤ 25 := by
  obtain ⟨v, a1, s1, hp, v0, v1, q0, q1⟩ := pick_ok c 0 0 5 hc (by omega) (by omega) (by omega)
  obtain ⟨u, a2, s2, hp2, u0, u1, q2, q3⟩ := pick_ok c a1 s1 5 hc (by omega) (by omega) (by omega)
  obtain ⟨n, hn⟩ := Int.eq_ofNat_of_zero_le (show 0 ≤ 1 + v by omega)
  obtain ⟨e, he⟩ := Int.eq_ofNat_of_zero_le (show 0 ≤ 1 + u by omega)
  obtain ⟨L, t, r1, r2, r3, r4⟩ := r8r_l1 c hc (n := n) (by omega) e _ 0 a2 s2 (by omega) (even_zero n) (by omega) (by omega) (by omega) (by omega)
  have h0 := r8r_l0 c (n := n) (by omega) a1 s1 (res := L) (by
    simp only [hp2, Option.bind_some, he, w64 (x := (e : Int)) (by omega) (by omega)]
    exact r1) n 0 (by omega)
  refine ⟨L, n, t, ?_, by omega, r2, by omega, by omega⟩
  unfold spec_R8Rows.f
  simp only [spec_l00From.f, Option.bind_some, hp, hn, w64 (x := (n : Int)) (by omega) (by omega)]
  exact h0

/-! impl.ValidMixture -/
theorem rdl_get7 {xs : List (List Int)} {i : Nat} (h : i < xs.length) : rd_L1 xs (i : Int) = xs.getD i [] := by
  unfold rd_L1; simp
theorem rdl_head7 (xs : List (List Int)) : rd_L1 xs 0 = xs.headD [] := by
  unfold rd_L1; cases xs <;> rfl
theorem rdl_get8 {xs : List (List Int)} {i : Nat} (h : i < xs.length) : rd_L1 xs (i : Int) = xs[i] := by
  unfold rd_L1; exact getD_get h
def imRow (ls : List (List Int)) (i : Nat) : Bool := !((ls.take i).any fun r => decide (r = ls.getD i [])) && (decide ((ls.getD i []).length = (ls.headD []).length) && (decide ((ls.getD i []).length ≤ 40) && (ls.getD i []).all fun x => decide (-1000000 ≤ x ∧ x ≤ 1000000)))
theorem vm1_ev (r : List Int) (x : List Int) (hr : r.length ≤ 1048576) : Ev (fun k => impl_ValidMixture_1.f k r x) (decide (r = x)) := by
  unfold impl_ValidMixture_1.f
  exact Ev.bind (slEqual_ev r x (by omega)) (Ev.now _)
theorem vmC_ev (l : List (List Int)) (x : List Int) (hl : l.length ≤ 1048576) (hr : ∀ r ∈ l, r.length ≤ 1048576) : Ev (fun k => slices_ContainsFunc_int64_int64_impl_ValidMixture_1.f k l x) (l.any fun r => decide (r = x)) := by
  obtain ⟨r, hr1, hr2⟩ := find_loop l (fun r => decide (r = x)) (fun k j => slices_IndexFunc_int64_int64_impl_ValidMixture_1.l0 k l (l.length : Int) j x)
    (by
      apply Ev.succ
      simp only [slices_IndexFunc_int64_int64_impl_ValidMixture_1.l0, if_neg (show ¬ (l.length : Int) < l.length by omega)]
      exact Ev.now _)
    (fun i hi hp => by
      apply Ev.succ
      simp only [slices_IndexFunc_int64_int64_impl_ValidMixture_1.l0, if_pos (show (i : Int) < (l.length : Int) by omega), if_pos (show 0 ≤ (i : Int) by omega), rdl_get8 hi]
      refine Ev.bind (vm1_ev l[i] x (hr _ (List.getElem_mem hi))) ?_
      simp only [hp, if_true]
      exact Ev.now _)
    (fun i hi hp r hr' => by
      apply Ev.succ
      simp only [slices_IndexFunc_int64_int64_impl_ValidMixture_1.l0, if_pos (show (i : Int) < (l.length : Int) by omega), if_pos (show 0 ≤ (i : Int) by omega), rdl_get8 hi]
      refine Ev.bind (vm1_ev l[i] x (hr _ (List.getElem_mem hi))) ?_
      simp only [hp, Bool.false_eq_true, if_false, inc hi (by omega)]
      exact hr')
  simp only [slices_ContainsFunc_int64_int64_impl_ValidMixture_1.f, slices_IndexFunc_int64_int64_impl_ValidMixture_1.f]
  refine Ev.bind hr1 ?_
  refine (Ev.now _).to ?_
  rw [hr2]
theorem im_l0 (ws : List Int) (ls : List (List Int)) (hl : ls.length ≤ 64) (hr : ∀ r ∈ ls, r.length ≤ 1048576) : Ev (fun k => impl_ValidMixture.l0 k ls (ls.length : Int) 0 ws ls) ((List.range ls.length).all (imRow ls)) := by
  have := all_step ls.length (imRow ls) (fun k i => impl_ValidMixture.l0 k ls (ls.length : Int) i ws ls) (r := true) ?_ ?_
  · rw [Bool.and_true] at this
    exact this
  · apply Ev.succ
    simp only [impl_ValidMixture.l0, if_neg (show ¬ (ls.length : Int) < ls.length by omega)]
    exact Ev.now _
  · intro i hi s hs
    have hm := hr (ls.getD i []) (by simp [List.getD_eq_getElem?_getD, hi])
    apply Ev.succ
    simp only [impl_ValidMixture.l0, if_pos (show (i : Int) < ls.length by omega), if_pos (show 0 ≤ (i : Int) by omega), if_pos (show (i : Int) ≤ ls.length by omega), rdl_get7 hi, rdl_head7, Int.toNat_natCast]
    refine Ev.bind (vmC_ev (ls.take i) (ls.getD i []) (by simp; omega) (fun r h => hr r (List.mem_of_mem_take h))) ?_
    unfold imRow
    cases (ls.take i).any fun r => decide (r = ls.getD i []) with
    | true =>
      simp only [if_true, Bool.not_true, Bool.false_and]
      exact Ev.now _
    | false =>
      simp only [Bool.false_eq_true, if_false, Bool.not_false, Bool.true_and, if_pos (show 0 < (ls.length : Int) by omega)]
      by_cases e2 : (ls.getD i []).length = (ls.headD []).length
      · simp only [if_pos (show ((ls.getD i []).length : Int) = (ls.headD []).length by omega), decide_eq_true e2, Bool.true_and]
        by_cases e3 : (ls.getD i []).length ≤ 40
        · simp only [if_neg (show ¬ ((ls.getD i []).length : Int) > 40 by omega), decide_eq_true e3, Bool.true_and]
          refine Ev.bind (areWithin_ev (ls.getD i []) (-1000000) 1000000 (by omega)) ?_
          cases (ls.getD i []).all fun n => decide (-1000000 ≤ n ∧ n ≤ 1000000) with
          | true =>
            simp only [if_true, Bool.true_and, inc hi (by omega)]
            exact hs
          | false =>
            simp only [Bool.false_eq_true, if_false, Bool.false_and]
            exact Ev.now _
        · simp only [if_pos (show ((ls.getD i []).length : Int) > 40 by omega), decide_eq_false e3, Bool.false_and]
          exact Ev.now _
      · simp only [if_neg (show ¬ ((ls.getD i []).length : Int) = (ls.headD []).length by omega), decide_eq_false e2, Bool.false_and]
        exact Ev.now _
theorem im_rows (ls : List (List Int)) (h : 1 ≤ ls.length) : (List.range ls.length).all (imRow ls) = (decide ((ls.headD []).length ≤ 40) && (List.range ls.length).all (mxRow ls)) := by
  have hd : ls.getD 0 [] = ls.headD [] := by cases ls <;> rfl
  have tk : ∀ i, i < ls.length → ((ls.take i).any fun r => decide (r = ls.getD i [])) = !((List.range i).all fun j => !decide (ls.getD j [] = ls.getD i [])) := by
    intro i hi
    have := all_range (ls.take i) (fun r => !decide (r = ls.getD i [])) []
    rw [List.length_take, Nat.min_eq_left (by omega)] at this
    rw [show ((List.range i).all fun j => !decide (ls.getD j [] = ls.getD i [])) = (ls.take i).all (fun r => !decide (r = ls.getD i [])) from ?_]
    · generalize ls.getD i [] = x
      induction (ls.take i) with
      | nil => rfl
      | cons y l ih => rw [List.any_cons, List.all_cons, ih, Bool.not_and, Bool.not_not]
    · rw [← this]
      rw [Bool.eq_iff_iff, List.all_eq_true, List.all_eq_true]
      refine forall_congr' fun j => forall_congr' fun hj => ?_
      have hj' : j < i := by simpa using hj
      have : (ls.take i).getD j [] = ls.getD j [] := by simp [List.getD_eq_getElem?_getD, List.getElem?_take, hj']
      rw [this]
  rw [Bool.eq_iff_iff, Bool.and_eq_true, List.all_eq_true, List.all_eq_true, decide_eq_true_iff]
  constructor
  · intro a
    refine ⟨?_, fun i hi => ?_⟩
    · have := a 0 (List.mem_range.2 (by omega))
      simp only [imRow, Bool.and_eq_true, decide_eq_true_eq, hd] at this
      exact this.2.2.1
    · have hi' : i < ls.length := by simpa using hi
      have := a i hi
      simp only [imRow, tk i hi', Bool.not_not, Bool.and_eq_true, decide_eq_true_eq] at this
      simp only [mxRow, Bool.and_eq_true, decide_eq_true_eq]
      exact ⟨this.2.1, this.2.2.2, this.1⟩
  · rintro ⟨a, b⟩ i hi
    have hi' : i < ls.length := by simpa using hi
    have := b i hi
    simp only [mxRow, Bool.and_eq_true, decide_eq_true_eq] at this
    simp only [imRow, tk i hi', Bool.not_not, Bool.and_eq_true, decide_eq_true_eq]
    exact ⟨this.2.2, this.1, by omega, this.2.1⟩
theorem iVM_ev (ws : List Int) (ls : List (List Int)) (hw : ws.length ≤ 1048576) (hl : ls.length ≤ 1048576) (hr : ∀ r ∈ ls, r.length ≤ 1048576) : Ev (fun k => impl_ValidMixture.f k ws ls) (VM ws ls) := by
  unfold impl_ValidMixture.f VM
  simp only [within_eq, impl_size_int64.f, Option.bind_some]
  by_cases h1 : 1 ≤ (ls.length : Int) ∧ (ls.length : Int) ≤ 64
  · by_cases h2 : ws.length = ls.length
    · simp only [decide_eq_true h1, decide_eq_true h2, if_true, if_pos (show (ws.length : Int) = ls.length by omega), Bool.true_and]
      refine Ev.bind (areWithin_ev ws 1 1000000 (by omega)) ?_
      have e : mxW ws = ws.all fun n => decide (1 ≤ n ∧ n ≤ 1000000) := rfl
      rw [← e]
      cases mxW ws with
      | true =>
        simp only [if_true, Bool.true_and]
        refine Ev.bind (isum_ev ws (by omega)) ?_
        apply Ev.succ
        by_cases h4 : wsum 0 ws ≤ 1000000
        · simp only [impl_ValidMixture.j0, decide_eq_false (show ¬ wsum 0 ws > 1000000 by omega), Bool.false_eq_true, if_false, decide_eq_true h4, Bool.and_true]
          exact (im_l0 ws ls (by omega) hr).to (im_rows ls (by omega))
        · simp only [impl_ValidMixture.j0, decide_eq_true (show wsum 0 ws > 1000000 by omega), if_true, decide_eq_false h4, Bool.and_false]
          exact Ev.now _
      | false =>
        simp only [Bool.false_eq_true, if_false, Bool.false_and, Bool.and_false]
        apply Ev.succ
        simp only [impl_ValidMixture.j0, if_true]
        exact Ev.now _
    · simp only [decide_eq_true h1, decide_eq_false h2, if_true, if_neg (show ¬ (ws.length : Int) = ls.length by omega), Bool.false_and, Bool.and_false]
      apply Ev.succ
      simp only [impl_ValidMixture.j0, if_true]
      exact Ev.now _
  · simp only [decide_eq_false h1, Bool.false_eq_true, if_false, Bool.false_and]
    apply Ev.succ
    simp only [impl_ValidMixture.j0, if_true]
    exact Ev.now _

/-! the law -/
theorem rdl_p {xs : List (List Int)} {i : Nat} : rd_L1 xs (i : Int) = xs.getD i [] := by
  unfold rd_L1; rfl
theorem r8at_ok {c : List Int} (hc : ∀ x ∈ c, 0 ≤ x ∧ x ≤ 255) {i n : Int} (h0 : 0 ≤ i) (hn : 0 ≤ n ∧ n ≤ 1000) : ∃ v, laws_r8At.f c i n = some v ∧ 0 ≤ v ∧ (1 ≤ n → v < n) ∧ v ≤ 1000 := by
  unfold laws_r8At.f
  by_cases c1 : n ≤ 1
  · rw [if_pos c1]; exact ⟨0, rfl, by omega, fun _ => by omega, by omega⟩
  · rw [if_neg c1]
    by_cases c2 : i ≥ (c.length : Int)
    · rw [if_pos c2]; exact ⟨0, rfl, by omega, fun _ => by omega, by omega⟩
    · have hb := rd_byte hc i
      have h1 := Int.tmod_nonneg n hb.1
      have h2 := Int.tmod_lt_of_pos (rd c i) (show 0 < n by omega)
      rw [if_neg c2, if_pos h0, if_pos (show i < (c.length : Int) by omega), if_neg (show ¬ n = 0 by omega), w64 (by omega) (by omega)]
      exact ⟨_, rfl, h1, fun _ => h2, by omega⟩
theorem wat_part {W : List Int} {ls : List (List Int)} {i c : Nat} (hW : ∀ w ∈ W, 1 ≤ w ∧ w ≤ 1000000) (hl : W.length = ls.length) : ∀ q, q ≤ ls.length → 0 ≤ wphi (fun l => dlt (pf l i) c) W ls q ∧ wphi (fun l => dlt (pf l i) c) W ls q ≤ 1000000 * q
  | 0, _ => by simp [wphi]
  | q + 1, hq => by
    have ih := wat_part (i := i) (c := c) hW hl q (by omega)
    have hw := hW (W.getD q 0) (getD_mem (by omega))
    rw [wphi_succ]
    by_cases e : pf (ls.getD q []) i = c
    · rw [dlt_eq e, Int.mul_one]; omega
    · rw [dlt_ne e, Int.mul_zero]; omega
theorem fp_l2 {n : Nat} {L : List (List Int)} {W : List Int} {ls : List (List Int)} (l1 : List Int) (hn : n ≤ 1000) (hsq : SQ n L) (hl : W.length = ls.length) (hm : ls.length ≤ 1000) (hW : ∀ w ∈ W, 1 ≤ w ∧ w ≤ 1000000) (ho : ∀ l ∈ ls, ORD l n) {i c : Nat} (hi : i < n) (hc : c < n) (he : pwat W ls i c = en L i c) {r : Bool} (h : Ev (fun k => laws_FnPermutations.l1 k l1 L (n : Int) (i : Int) ((c + 1 : Nat) : Int) W ls) r) : ∀ (d q : Nat), q + d = ls.length → Ev (fun k => laws_FnPermutations.l2 k l1 L (n : Int) (i : Int) (c : Int) (wphi (fun l => dlt (pf l i) c) W ls q) (q : Int) W ls) r
  | 0, q, hq => by
    obtain rfl : q = ls.length := by omega
    apply Ev.succ
    have e2 : rd (L.getD i []) (c : Int) = en L i c := mrd
    have e3 : wphi (fun l => dlt (pf l i) c) W ls ls.length = en L i c := he
    simp only [laws_FnPermutations.l2, if_neg (show ¬ ((ls.length : Nat) : Int) < (ls.length : Int) by omega), if_pos (show 0 ≤ (i : Int) by omega), hsq.1, if_pos (show (i : Int) < (n : Int) by omega), if_pos (show 0 ≤ (c : Int) by omega), rdl_p, hsq.2 i hi, if_pos (show (c : Int) < (n : Int) by omega), e2, e3, if_true, inc hc (by omega)]
    exact h
  | d + 1, q, hq => by
    have ih := fp_l2 l1 hn hsq hl hm hW ho hi hc he h d (q + 1) (by omega)
    have hq' : q < ls.length := by omega
    have hoq := ho (ls.getD q []) (getD_mem hq')
    have hg := ord_get hoq hi
    have hp := wat_part (i := i) (c := c) hW hl q (by omega)
    have hw := hW (W.getD q 0) (getD_mem (by omega))
    rw [wphi_succ] at ih
    apply Ev.succ
    simp only [laws_FnPermutations.l2, if_pos (show (q : Int) < (ls.length : Int) by omega), if_pos (show 0 ≤ (q : Int) by omega), if_pos (show 0 ≤ (i : Int) by omega), rdl_p, hoq.1, if_pos (show (i : Int) < (n : Int) by omega), mrd, inc hq' (by omega)]
    by_cases e : (ls.getD q []).getD i 0 = (c : Int)
    · simp only [if_pos e, hl, if_pos (show (q : Int) < (ls.length : Int) by omega), w64 (show (-9223372036854775808) ≤ wphi (fun l => dlt (pf l i) c) W ls q + W.getD q 0 by omega) (by omega)]
      rw [dlt_eq (show pf (ls.getD q []) i = c by omega), Int.mul_one] at ih
      exact ih
    · simp only [if_neg e]
      rw [dlt_ne (show pf (ls.getD q []) i ≠ c by omega), Int.mul_zero, Int.add_zero] at ih
      exact ih
theorem fp_l1 {n : Nat} {L : List (List Int)} {W : List Int} {ls : List (List Int)} (l1 : List Int) (hn : n ≤ 1000) (hsq : SQ n L) (hl : W.length = ls.length) (hm : ls.length ≤ 1000) (hW : ∀ w ∈ W, 1 ≤ w ∧ w ≤ 1000000) (ho : ∀ l ∈ ls, ORD l n) {i : Nat} (hi : i < n) (he : ∀ c, c < n → pwat W ls i c = en L i c) {r : Bool} (h : Ev (fun k => laws_FnPermutations.l0 k l1 L (n : Int) ((i + 1 : Nat) : Int) W ls) r) : ∀ (d c : Nat), c + d = n → Ev (fun k => laws_FnPermutations.l1 k l1 L (n : Int) (i : Int) (c : Int) W ls) r
  | 0, c, hc => by
    obtain rfl : c = n := by omega
    apply Ev.succ
    simp only [laws_FnPermutations.l1, if_neg (show ¬ (c : Int) < (c : Int) by omega), inc hi (by omega)]
    exact h
  | d + 1, c, hc => by
    have ih := fp_l1 l1 hn hsq hl hm hW ho hi he h d (c + 1) (by omega)
    have h2 := fp_l2 l1 hn hsq hl hm hW ho hi (show c < n by omega) (he c (by omega)) ih ls.length 0 (by omega)
    apply Ev.succ
    simp only [laws_FnPermutations.l1, if_pos (show (c : Int) < (n : Int) by omega)]
    exact h2
theorem fp_l0 {n : Nat} {L : List (List Int)} {W : List Int} {ls : List (List Int)} (l1 : List Int) (hn : n ≤ 1000) (hsq : SQ n L) (hl : W.length = ls.length) (hm : ls.length ≤ 1000) (hW : ∀ w ∈ W, 1 ≤ w ∧ w ≤ 1000000) (ho : ∀ l ∈ ls, ORD l n) (he : ∀ i c, i < n → c < n → pwat W ls i c = en L i c) {r : Bool} (h : Ev (fun k => laws_FnPermutations.l3 k l1 L (n : Int) [] 0) r) : ∀ (d i : Nat), i + d = n → Ev (fun k => laws_FnPermutations.l0 k l1 L (n : Int) (i : Int) W ls) r
  | 0, i, hi => by
    obtain rfl : i = n := by omega
    apply Ev.succ
    simp only [laws_FnPermutations.l0, if_neg (show ¬ (i : Int) < (i : Int) by omega)]
    exact h
  | d + 1, i, hi => by
    have ih := fp_l0 l1 hn hsq hl hm hW ho he h d (i + 1) (by omega)
    have h2 := fp_l1 l1 hn hsq hl hm hW ho (show i < n by omega) (fun c hc => he i c (by omega) hc) ih n 0 (by omega)
    apply Ev.succ
    simp only [laws_FnPermutations.l0, if_pos (show (i : Int) < (n : Int) by omega)]
    exact h2
/-- One more in the first row: no more even. -/
theorem bent_db {n : Nat} {L : List (List Int)} {s : Int} (h : EVEN n L s) (hn : 2 ≤ n) {t : Nat} (ht : t < n) : DB (L.set 0 ((L.getD 0 []).set t (en L 0 t + 1))) = false := by
  rw [Bool.eq_false_iff]
  intro hd
  obtain ⟨s2, _, hev, _⟩ := even_of_db hd
  rw [List.length_set, h.1.1] at hev
  have a := hev.2.2.1 0 (by omega)
  have b := hev.2.2.1 1 (by omega)
  have e1 : ∀ c, c < n → en (L.set 0 ((L.getD 0 []).set t (en L 0 t + 1))) 1 c = en L 1 c := fun c hc => by
    unfold en
    rw [getD_setX _ _ _ _ _ (by rw [h.1.1]; omega), if_neg (by omega)]
  have e0 : ∀ c, en (L.set 0 ((L.getD 0 []).set t (en L 0 t + 1))) 0 c = if c = t then en L 0 t + 1 else en L 0 c := fun c => by
    show (List.getD (L.set 0 _) 0 []).getD c 0 = _
    rw [getD_setX _ _ _ _ _ (by rw [h.1.1]; omega), if_pos rfl, getD_setX _ _ _ _ _ (by rw [h.1.2 0 (by omega)]; exact ht)]
    rfl
  rw [sumN_congr e1, h.2.2.1 1 (by omega)] at b
  rw [sumN_at ht (g := en L 0) (fun c _ hne => by rw [e0, if_neg hne]), h.2.2.1 0 (by omega), e0, if_pos rfl] at a
  omega
theorem fp_l3 {n : Nat} {L : List (List Int)} {s : Int} (l1 : List Int) (hc : ∀ x ∈ l1, 0 ≤ x ∧ x ≤ 255) (hn : 1 ≤ n ∧ n ≤ 6) (h : EVEN n L s) (hs : s ≤ 1000) : ∀ (d i : Nat), i + d = n → Ev (fun k => laws_FnPermutations.l3 k l1 L (n : Int) (L.take i) (i : Int)) true
  | 0, i, hi => by
    obtain rfl : i = n := by omega
    obtain ⟨v, hv, v0, v1, _⟩ := r8at_ok hc (i := 0) (n := (i : Int)) (by omega) (by omega)
    obtain ⟨t, rfl⟩ := Int.eq_ofNat_of_zero_le v0
    have ht : t < i := by have := v1 (by omega); omega
    have h0 : rd_L1 L 0 = L.getD 0 [] := rdl_p (i := 0)
    have hb := even_bnd h (show 0 < i by omega) ht
    have e2 : rd (L.getD 0 []) (t : Int) = en L 0 t := mrd
    apply Ev.succ
    rw [List.take_of_length_le (by rw [h.1.1]; exact Nat.le_refl _)]
    simp only [laws_FnPermutations.l3, if_neg (show ¬ (i : Int) < (i : Int) by omega), h.1.1, if_pos (show 0 < (i : Int) by omega), hv, Option.bind_some, if_pos v0, h0, h.1.2 0 (by omega), if_pos (show (t : Int) < (i : Int) by omega), e2, w64 (show (-9223372036854775808) ≤ en L 0 t + 1 by omega) (by omega), Int.toNat_natCast, show (0 : Int).toNat = 0 from rfl]
    by_cases c1 : (i : Int) = 1
    · simp only [if_pos c1]; exact Ev.now _
    · simp only [if_neg c1]
      refine Ev.bind ((iDB_ev _ (by rw [List.length_set, h.1.1]; omega) (fun r hr => ?_)).to (bent_db h (by omega) ht)) (Ev.now _)
      obtain ⟨j, hj, rfl⟩ := List.getElem_of_mem hr
      rw [List.length_set, h.1.1] at hj
      rw [List.getElem_set]
      split
      · rw [List.length_set, h.1.2 0 (by omega)]; omega
      · have := h.1.2 j hj
        rw [show L.getD j [] = L[j]'(by rw [h.1.1]; exact hj) by simp [List.getD_eq_getElem?_getD, h.1.1, hj]] at this
        omega
  | d + 1, i, hi => by
    have ih := fp_l3 l1 hc hn h hs d (i + 1) (by omega)
    have hi' : i < L.length := by rw [h.1.1]; omega
    have e1 : L.getD i [] = L[i] := by simp [List.getD_eq_getElem?_getD, hi']
    have hl : L[i].length = n := by rw [← e1]; exact h.1.2 i (by omega)
    apply Ev.succ
    simp only [laws_FnPermutations.l3, if_pos (show (i : Int) < (n : Int) by omega), Option.bind_some, if_pos (show 0 ≤ (i : Int) by omega), if_pos (show (i : Int) < (L.length : Int) by omega), rdl_p, e1, hl, List.length_nil, if_pos (show 0 + n < 17592186044416 by omega), if_pos (show (L.take i).length < 5864062014805 by rw [List.length_take]; omega), List.nil_append, inc (show i < n by omega) (by omega)]
    rw [List.take_succ_eq_append_getElem hi'] at ih
    exact ih
theorem FnPermutations : laws_FnPermutations.Pure := by
  intro l0 l1 h0 _ w0 h1 _ w1
  apply Ev.rounds
  unfold laws_FnPermutations.f laws_r8Long.f
  by_cases c0 : (l0.length : Int) > 48
  · simp only [if_pos c0, Option.bind_some, if_true]
    exact Ev.now _
  by_cases c1 : (l1.length : Int) > 48
  · simp only [if_neg c0, decide_eq_true c1, Option.bind_some, if_true]
    exact Ev.now _
  simp only [if_neg c0, decide_eq_false c1, Option.bind_some, Bool.false_eq_true, if_false]
  obtain ⟨L, n, S, hL, hn, hev, hS⟩ := r8r_ev l0 (fun x hx => wfByte (w0 x hx))
  have hrows : ∀ r ∈ L, r.length ≤ 1048576 := fun r hr => by
    obtain ⟨j, hj, rfl⟩ := List.getElem_of_mem hr
    have := hev.1.2 j (by rw [← hev.1.1]; exact hj)
    rw [show L.getD j [] = L[j] by simp [List.getD_eq_getElem?_getD, hj]] at this
    omega
  have hdb : DB L = true := db_of_even (by omega) hev (by omega)
  have hD := (iDB_ev L (by rw [hev.1.1]; omega) hrows).to hdb
  obtain ⟨L', hpi⟩ := pmf_end hn.1 S.toNat L [] [] S (pi_start hev) (by omega)
  have hpm := pm_l0 (L0 := L) (S := S) (by omega) (by omega) S.toNat L [] [] S (pi_start hev) (by omega)
  generalize (PMF n S.toNat L [] []) = M at hpi hpm
  obtain ⟨W, ls⟩ := M
  dsimp only at hpi hpm
  have hvm := pi_vm hpi (by omega) (by omega)
  obtain ⟨f1, f2, f3, f4, f5, f6, f7⟩ := vm_facts hvm
  have hl1 : 1 ≤ ls.length := by
    unfold VM at hvm
    simp only [Bool.and_eq_true, decide_eq_true_eq] at hvm
    omega
  have hcount := pi_count hpi hn.1
  have hb := mem_le_sum hpi.pos
  have hsum := hpi.sum
  have hc2 : (n - 1) * (n - 1) ≤ 16 := Nat.mul_le_mul (show n - 1 ≤ 4 by omega) (show n - 1 ≤ 4 by omega)
  obtain ⟨p, hp⟩ : ∃ p, (n - 1) * (n - 1) = p := ⟨_, rfl⟩
  rw [hp] at hcount hc2
  refine Ev.bind hL ?_
  have hPM : Ev (fun k => impl_PermutationMixture.f k L) (W, ls, true) := by
    unfold impl_PermutationMixture.f
    refine Ev.bind hD ?_
    simp only [if_true]
    exact Ev.bind (ownRows_ev L (by rw [hev.1.1]; omega) hrows) hpm
  refine Ev.bind hPM ?_
  simp only [if_true]
  refine Ev.bind hD ?_
  simp only [if_true]
  refine Ev.bind ((iVM_ev W ls (by rw [hpi.len]; omega) (by omega) (fun r hr => by have := (hpi.ord r hr).1; omega)).to hvm) ?_
  have ew : wrap64 (wrap64 (wrap64 ((n : Int) - 1) * wrap64 ((n : Int) - 1)) + 1) = ((p + 1 : Nat) : Int) := by
    have e1 : wrap64 ((n : Int) - 1) = ((n - 1 : Nat) : Int) := by rw [w64 (by omega) (by omega)]; omega
    have e2 : ((n - 1 : Nat) : Int) * ((n - 1 : Nat) : Int) = (p : Int) := by rw [← Int.natCast_mul, hp]
    rw [e1, e2, w64 (x := (p : Int)) (by omega) (by omega), w64 (by omega) (by omega)]
    omega
  have h00 : rd_L1 ls 0 = ls.getD 0 [] := rdl_p (i := 0)
  have hl0 := (hpi.ord (ls.getD 0 []) (getD_mem (by omega))).1
  simp only [if_true, ew, if_neg (show ¬ (ls.length : Int) > ((p + 1 : Nat) : Int) by omega), if_pos (show 0 < (ls.length : Int) by omega), h00, hl0, hev.1.1, bne_self_eq_false]
  apply Ev.succ
  simp only [laws_FnPermutations.j0, Bool.false_eq_true, if_false]
  have h3 := fp_l3 l1 (fun x hx => wfByte (w1 x hx)) (by omega) hev (by omega) n 0 (by omega)
  have hz : ∀ i c, i < n → c < n → en L' i c = 0 := fun i c hi hc => by
    have := even_bnd hpi.even hi hc
    omega
  exact fp_l0 l1 (by omega) hev.1 hpi.len (by omega) (fun w hw => by have := hpi.pos w hw; have := hb.1 w hw; omega) hpi.ord (fun i c hi hc => by have := hpi.all i c hi hc; rw [hz i c hi hc] at this; omega) h3 n 0 (by omega)


end Go.Proofs.Ytlhpejabdmejbaa.Pure
