/- Proved: the pure half of the law FnExactIsDoubly: the printed functions answer true, for every input. No condition. -/
import Derived.Test.YtggnpbcekiojdaaPFnExactIsDoublyx6
import Derived.Test.YtggnpbcekiojdaaBase
import Derived.Test.YtggnpbcekiojdaaLists
namespace Go.Proofs.Ytggnpbcekiojdaa.Pure
open Go.RowKit Go.Proofs.Ytggnpbcekiojdaa.PFnExactIsDoubly Go.Proofs.YtggnpbcekiojdaaW.PrintWords Go.Proofs.YtggnpbcekiojdaaW.PrintLast Go.Proofs.YtggnpbcekiojdaaW.PrintMore Go.Proofs.Ytggnpbcekiojdaa.Base
set_option linter.unusedVariables false
set_option linter.unusedSimpArgs false

/-! laws.szInt64S -/
theorem szS_eq (l : List Int) (a : Int) (hl : l.length ≤ 9223372036854775807) (h0 : 0 ≤ a) (h1 : a ≤ 1048576) : laws_szInt64S.f l a = some (if a < l.length then -1 else a - l.length) := by
  unfold laws_szInt64S.f
  rw [w64 (by omega) (by omega)]
  by_cases h : a < l.length
  · rw [if_pos (by omega), if_pos h]
  · rw [if_neg (by omega), if_neg h]

/-! laws.szInt64SS -/
theorem rdl_get {xs : List (List Int)} {i : Nat} (h : i < xs.length) : rd_L1 xs (i : Int) = xs[i] := by
  unfold rd_L1; exact getD_get h
theorem szSS_l0 (l : List (List Int)) (a : Int) (hl : l.length ≤ 1048576) (hr : ∀ r ∈ l, r.length ≤ 9223372036854775807) (h1 : a ≤ 1048576) : ∀ (d i : Nat) (b : Int), d + i = l.length → 0 ≤ b → b ≤ a → (∀ (j : Nat) (h : j < l.length), j < i → ((l[j]).length : Int) ≤ a) → ∃ r : Int, Ev (fun k => laws_szInt64SS.l0 k l b i) r ∧ (r = -1 ∨ (0 ≤ r ∧ r ≤ a ∧ ∀ x ∈ l, (x.length : Int) ≤ a)) := by
  intro d
  induction d with
  | zero =>
    intro i b hd h0 hb hj
    refine ⟨b, ?_, .inr ⟨h0, hb, fun x hx => ?_⟩⟩
    · apply Ev.succ
      simp only [laws_szInt64SS.l0, if_neg (show ¬ (i : Int) < (l.length : Int) by omega)]
      exact Ev.now _
    · obtain ⟨j, hj', rfl⟩ := List.getElem_of_mem hx
      exact hj j hj' (by omega)
  | succ d ih =>
    intro i b hd h0 hb hj
    have hi : i < l.length := by omega
    have hri := hr l[i] (List.getElem_mem hi)
    by_cases h : b < (l[i]).length
    · refine ⟨-1, ?_, .inl rfl⟩
      apply Ev.succ
      simp only [laws_szInt64SS.l0, if_pos (show (i : Int) < (l.length : Int) by omega), if_pos (show 0 ≤ (i : Int) by omega), rdl_get hi, szS_eq l[i] b hri h0 (by omega), if_pos h, Option.bind_some, if_pos (show (-1 : Int) < 0 by omega)]
      exact Ev.now _
    · obtain ⟨r, hr1, hr2⟩ := ih (i + 1) (b - (l[i]).length) (by omega) (by omega) (by omega) (fun j hj1 hj2 => by
        by_cases e : j = i
        · subst e; omega
        · exact hj j hj1 (by omega))
      refine ⟨r, ?_, hr2⟩
      apply Ev.succ
      simp only [laws_szInt64SS.l0, if_pos (show (i : Int) < (l.length : Int) by omega), if_pos (show 0 ≤ (i : Int) by omega), rdl_get hi, szS_eq l[i] b hri h0 (by omega), if_neg h, Option.bind_some, if_neg (show ¬ b - (l[i]).length < 0 by omega), w64 (show (-9223372036854775808) ≤ (i : Int) + 1 by omega) (by omega)]
      exact hr1
theorem szSS_ev (l : List (List Int)) (a : Int) (hl : l.length ≤ 9223372036854775807) (hr : ∀ r ∈ l, r.length ≤ 9223372036854775807) (h0 : 0 ≤ a) (h1 : a ≤ 1048576) : ∃ r : Int, Ev (fun k => laws_szInt64SS.f k l a) r ∧ (r = -1 ∨ (0 ≤ r ∧ r ≤ a ∧ l.length ≤ 1048576 ∧ ∀ x ∈ l, x.length ≤ 1048576)) := by
  unfold laws_szInt64SS.f
  rw [w64 (show (-9223372036854775808) ≤ a - (l.length : Int) by omega) (by omega)]
  by_cases h : a - (l.length : Int) < 0
  · simp only [if_pos h]
    exact ⟨-1, Ev.now _, .inl rfl⟩
  · simp only [if_neg h]
    obtain ⟨r, h1', h2⟩ := szSS_l0 l a (by omega) hr h1 l.length 0 (a - l.length) (by omega) (by omega) (by omega) (fun j _ hj => by omega)
    refine ⟨r, h1', ?_⟩
    rcases h2 with h2 | ⟨h2, h3, h4⟩
    · exact .inl h2
    · exact .inr ⟨h2, h3, by omega, fun x hx => by have := h4 x hx; omega⟩

/-! spec.l00In -/
theorem in_eq (a b c : Int) : spec_l00In.f a b c = some (decide (b ≤ a ∧ a ≤ c)) := by
  unfold spec_l00In.f
  by_cases h : b ≤ a
  · rw [if_pos (show a ≥ b from h)]; simp [h]
  · rw [if_neg (show ¬ a ≥ b from h)]; simp [h]

/-! spec.l01Sum -/
theorem ssum_l0 (l : List Int) (hl : l.length ≤ 9223372036854775806) : ∀ (d i : Nat) (acc : Int), d + i = l.length → Ev (fun k => spec_l01Sum.l0 k l acc i) (wsum acc (l.drop i)) := by
  intro d
  induction d with
  | zero =>
    intro i acc hd
    apply Ev.succ
    simp only [spec_l01Sum.l0, if_neg (show ¬ (i : Int) < (l.length : Int) by omega)]
    rw [List.drop_of_length_le (by omega)]
    exact Ev.now _
  | succ d ih =>
    intro i acc hd
    have hi : i < l.length := by omega
    apply Ev.succ
    simp only [spec_l01Sum.l0, if_pos (show (i : Int) < (l.length : Int) by omega), if_pos (show 0 ≤ (i : Int) by omega), rd_get hi, w64 (show (-9223372036854775808) ≤ (i : Int) + 1 by omega) (by omega)]
    rw [List.drop_eq_getElem_cons hi]
    exact ih (i + 1) _ (by omega)
theorem ssum_ev (l : List Int) (hl : l.length ≤ 9223372036854775806) : Ev (fun k => spec_l01Sum.f k l) (wsum 0 l) := by
  have := ssum_l0 l hl l.length 0 0 (by omega)
  simpa [spec_l01Sum.f] using this

/-! spec.l06Doubly -/
theorem rdl_getU {xs : List (List Int)} {i : Nat} : rd_L1 xs (i : Int) = xs.getD i [] := by
  unfold rd_L1; simp
theorem rd_getDU {xs : List Int} {i : Nat} : rd xs (i : Int) = xs.getD i 0 := by
  unfold rd; simp
def dcol (l : List (List Int)) (i k : Nat) : Int := wsum 0 (colOf (l.take i) k)
theorem dcol_succ (l : List (List Int)) (i k : Nat) (h : i < l.length) : wrap64 (dcol l i k + (l.getD i []).getD k 0) = dcol l (i + 1) k := by
  unfold dcol
  rw [colOf_succ l i k h]
  unfold wsum
  rw [List.foldl_append]
  rfl
def drow (l : List (List Int)) (i : Nat) : Bool := decide ((l.getD i []).length = l.length) && (l.getD i []).all fun x => decide (0 ≤ x ∧ x ≤ 1000)
def dC (l : List (List Int)) (k : Nat) : Int := wsum 0 (colOf l k)
def dR (l : List (List Int)) (k : Nat) : Int := wsum 0 (l.getD k [])
/-- Doubly even rows. -/
def DB (l : List (List Int)) : Bool := decide (1 ≤ (l.length : Int) ∧ (l.length : Int) ≤ 6) && ((List.range l.length).all (drow l) && ((List.range l.length).all (fun i => decide (dR l i = dC l 0) && decide (dC l i = dC l 0)) && decide (dC l 0 > 0)))
theorem db_l2 (l : List (List Int)) (hn : 1 ≤ l.length) (hl : l.length ≤ 6) (hr : ∀ r ∈ l, r.length ≤ 1048576) : Ev (fun k => spec_l06Doubly.l2 k l (l.length : Int) (stair (dcol l) l.length l.length 0) 0) ((List.range l.length).all (fun i => decide (dR l i = dC l 0) && decide (dC l i = dC l 0)) && decide (dC l 0 > 0)) := by
  have g : ∀ k, k < l.length → rd (stair (dcol l) l.length l.length 0) (k : Int) = dC l k := by
    intro k hk
    rw [rd_getDU, stair_get _ _ _ _ _ hk]
    simp [dcol, dC]
  have g0 : rd (stair (dcol l) l.length l.length 0) 0 = dC l 0 := g 0 (by omega)
  refine all_step l.length (fun i => decide (dR l i = dC l 0) && decide (dC l i = dC l 0)) (fun k i => spec_l06Doubly.l2 k l (l.length : Int) (stair (dcol l) l.length l.length 0) i) ?_ ?_
  · apply Ev.succ
    simp only [spec_l06Doubly.l2, if_neg (show ¬ (l.length : Int) < l.length by omega), stair_length, if_pos (show 0 < (l.length : Int) by omega), g0]
    exact Ev.now _
  · intro i hi s hs
    have hm := hr (l.getD i []) (by simp [List.getD_eq_getElem?_getD, hi])
    apply Ev.succ
    simp only [spec_l06Doubly.l2, if_pos (show (i : Int) < l.length by omega), if_pos (show 0 ≤ (i : Int) by omega), rdl_getU, stair_length, if_pos (show 0 < (l.length : Int) by omega), g0, g i hi, inc hi (by omega)]
    refine Ev.bind (ssum_ev (l.getD i []) (by omega)) ?_
    have e0 : wsum 0 (l.getD i []) = dR l i := rfl
    rw [e0]
    by_cases e1 : dR l i = dC l 0
    · by_cases e2 : dC l i = dC l 0
      · simp only [if_pos e1, if_pos e2, decide_eq_true e1, decide_eq_true e2, Bool.and_self, Bool.true_and]
        exact hs
      · simp only [if_pos e1, if_neg e2, decide_eq_true e1, decide_eq_false e2, Bool.and_false, Bool.false_and]
        exact Ev.now _
    · simp only [if_neg e1, decide_eq_false e1, Bool.false_and]
      exact Ev.now _
theorem db_l1 (l : List (List Int)) (hl : l.length ≤ 6) (i : Nat) (hi : i < l.length) (hr : (l.getD i []).length = l.length) {s : Bool} (hs : Ev (fun k => spec_l06Doubly.l0 k l (l.length : Int) (stair (dcol l) l.length (i + 1) 0) ((i : Int) + 1)) s) : Ev (fun k => spec_l06Doubly.l1 k l (l.length : Int) (stair (dcol l) l.length i 0) i 0) (((l.getD i []).all fun x => decide (0 ≤ x ∧ x ≤ 1000)) && s) := by
  rw [← all_range (l.getD i []) _ 0, hr]
  refine all_step l.length (fun j => decide (0 ≤ (l.getD i []).getD j 0 ∧ (l.getD i []).getD j 0 ≤ 1000)) (fun k j => spec_l06Doubly.l1 k l (l.length : Int) (stair (dcol l) l.length i j) i j) ?_ ?_
  · apply Ev.succ
    simp only [spec_l06Doubly.l1, if_neg (show ¬ (l.length : Int) < l.length by omega), stair_end, inc hi (by omega)]
    exact hs
  · intro j hj q hq
    apply Ev.succ
    simp only [spec_l06Doubly.l1, if_pos (show (j : Int) < l.length by omega), if_pos (show 0 ≤ (i : Int) by omega), if_pos (show (i : Int) < l.length by omega), if_pos (show 0 ≤ (j : Int) by omega), rdl_getU, hr, rd_getDU, in_eq, Option.bind_some, stair_length, Int.toNat_natCast, stair_get (dcol l) l.length i j j hj, if_neg (show ¬ j < j by omega), dcol_succ l i j hi, stair_set (dcol l) l.length i j hj, inc hj (by omega)]
    by_cases e : 0 ≤ (l.getD i []).getD j 0 ∧ (l.getD i []).getD j 0 ≤ 1000
    · simp only [decide_eq_true e, if_true, Bool.true_and]
      exact hq
    · simp only [decide_eq_false e, Bool.false_eq_true, if_false, Bool.false_and]
      exact Ev.now _
theorem db_l0 (l : List (List Int)) (hn : 1 ≤ l.length) (hl : l.length ≤ 6) (hr : ∀ r ∈ l, r.length ≤ 1048576) : Ev (fun k => spec_l06Doubly.l0 k l (l.length : Int) (stair (dcol l) l.length 0 0) 0) ((List.range l.length).all (drow l) && ((List.range l.length).all (fun i => decide (dR l i = dC l 0) && decide (dC l i = dC l 0)) && decide (dC l 0 > 0))) := by
  refine all_step l.length (drow l) (fun k i => spec_l06Doubly.l0 k l (l.length : Int) (stair (dcol l) l.length i 0) i) ?_ ?_
  · apply Ev.succ
    simp only [spec_l06Doubly.l0, if_neg (show ¬ (l.length : Int) < l.length by omega)]
    exact db_l2 l hn hl hr
  · intro i hi s hs
    apply Ev.succ
    simp only [spec_l06Doubly.l0, if_pos (show (i : Int) < l.length by omega), if_pos (show 0 ≤ (i : Int) by omega), rdl_getU, drow]
    by_cases e : (l.getD i []).length = l.length
    · simp only [if_pos (show ((l.getD i []).length : Int) = l.length by omega), decide_eq_true e, Bool.true_and]
      exact db_l1 l hl i hi e hs
    · simp only [if_neg (show ¬ ((l.getD i []).length : Int) = l.length by omega), decide_eq_false e, Bool.false_and]
      exact Ev.now _
theorem doubly_ev (l : List (List Int)) (hm : l.length ≤ 1048576) (hr : ∀ r ∈ l, r.length ≤ 1048576) : Ev (fun k => spec_l06Doubly.f k l) (DB l) := by
  unfold spec_l06Doubly.f DB
  simp only [in_eq, Option.bind_some]
  by_cases h : 1 ≤ (l.length : Int) ∧ (l.length : Int) ≤ 6
  · simp only [decide_eq_true h, if_true, Bool.true_and, if_pos (show 0 ≤ (l.length : Int) by omega), Int.toNat_natCast, if_pos (show l.length ≤ 35184372088832 by omega)]
    have := db_l0 l (by omega) (by omega) hr
    rw [stair_zero] at this
    have e : (List.range l.length).map (dcol l 0) = List.replicate l.length 0 := by
      apply List.ext_getElem
      · simp
      · intro k h1 h2
        simp [dcol, colOf, wsum]
    rw [e] at this
    exact this
  · simp only [decide_eq_false h, Bool.false_eq_true, if_false, Bool.false_and]
    exact Ev.now _

/-! spec.IsDoubly -/
theorem sDB_ev (l : List (List Int)) (hm : l.length ≤ 1048576) (hr : ∀ r ∈ l, r.length ≤ 1048576) : Ev (fun k => spec_IsDoubly.f k l) (DB l) := by
  unfold spec_IsDoubly.f
  exact Ev.bind (doubly_ev l hm hr) (Ev.now _)

/-! laws.toInt64S -/
theorem to_step (l : List Int) (i : Nat) (hi : i < l.length) : (l.take i ++ List.replicate (l.length - i) 0).set i l[i] = l.take (i + 1) ++ List.replicate (l.length - (i + 1)) 0 := by
  rw [show l.length - i = (l.length - (i + 1)) + 1 by omega, List.replicate_succ, List.set_append, if_neg (by simp; omega), List.length_take, Nat.min_eq_left (by omega), Nat.sub_self, List.set_cons_zero, List.take_succ_eq_append_getElem hi, List.append_assoc]
  rfl
theorem to_l0 (l : List Int) (hl : l.length ≤ 35184372088832) : ∀ (d i : Nat), d + i = l.length → Ev (fun k => laws_toInt64S.l0 k l (l.take i ++ List.replicate (l.length - i) 0) i) l := by
  intro d
  induction d with
  | zero =>
    intro i hd
    apply Ev.succ
    simp only [laws_toInt64S.l0, if_neg (show ¬ (i : Int) < (l.length : Int) by omega)]
    rw [List.take_of_length_le (by omega), show l.length - i = 0 by omega]
    simpa using Ev.now l
  | succ d ih =>
    intro i hd
    have hi : i < l.length := by omega
    apply Ev.succ
    simp only [laws_toInt64S.l0, if_pos (show (i : Int) < (l.length : Int) by omega), if_pos (show 0 ≤ (i : Int) by omega), if_pos (show (i : Int) < ((l.take i ++ List.replicate (l.length - i) (0 : Int)).length : Int) by simp; omega), rd_get hi, w64 (show (-9223372036854775808) ≤ (i : Int) + 1 by omega) (by omega), Int.toNat_natCast, to_step l i hi]
    exact ih (i + 1) (by omega)
theorem toInt64S_ev (l : List Int) (hl : l.length ≤ 35184372088832) : Ev (fun k => laws_toInt64S.f k l) l := by
  simp only [laws_toInt64S.f, if_pos (show 0 ≤ (l.length : Int) by omega), Int.toNat_natCast, if_pos hl]
  have := to_l0 l hl l.length 0 (by omega)
  simpa using this

/-! laws.toInt64SS -/
theorem toss_step (l : List (List Int)) (i : Nat) (hi : i < l.length) : (l.take i ++ List.replicate (l.length - i) []).set i l[i] = l.take (i + 1) ++ List.replicate (l.length - (i + 1)) [] := by
  rw [show l.length - i = (l.length - (i + 1)) + 1 by omega, List.replicate_succ, List.set_append, if_neg (by simp; omega), List.length_take, Nat.min_eq_left (by omega), Nat.sub_self, List.set_cons_zero, List.take_succ_eq_append_getElem hi, List.append_assoc]
  rfl
theorem rdl_get2 {xs : List (List Int)} {i : Nat} (h : i < xs.length) : rd_L1 xs (i : Int) = xs[i] := by
  unfold rd_L1; exact getD_get h
theorem toss_l0 (l : List (List Int)) (hl : l.length ≤ 1048576) (hr : ∀ r ∈ l, r.length ≤ 1048576) : ∀ (d i : Nat), d + i = l.length → Ev (fun k => laws_toInt64SS.l0 k l (l.take i ++ List.replicate (l.length - i) []) i) l := by
  intro d
  induction d with
  | zero =>
    intro i hd
    apply Ev.succ
    simp only [laws_toInt64SS.l0, if_neg (show ¬ (i : Int) < (l.length : Int) by omega)]
    rw [List.take_of_length_le (by omega), show l.length - i = 0 by omega]
    simpa using Ev.now l
  | succ d ih =>
    intro i hd
    have hi : i < l.length := by omega
    have hri := hr l[i] (List.getElem_mem hi)
    apply Ev.succ
    simp only [laws_toInt64SS.l0, if_pos (show (i : Int) < (l.length : Int) by omega), if_pos (show 0 ≤ (i : Int) by omega), if_pos (show (i : Int) < ((l.take i ++ List.replicate (l.length - i) ([] : List Int)).length : Int) by simp; omega), rdl_get2 hi, w64 (show (-9223372036854775808) ≤ (i : Int) + 1 by omega) (by omega), Int.toNat_natCast]
    refine Ev.bind (toInt64S_ev l[i] (by omega)) ?_
    rw [toss_step l i hi]
    exact ih (i + 1) (by omega)
theorem toInt64SS_ev (l : List (List Int)) (hl : l.length ≤ 1048576) (hr : ∀ r ∈ l, r.length ≤ 1048576) : Ev (fun k => laws_toInt64SS.f k l) l := by
  simp only [laws_toInt64SS.f, if_pos (show 0 ≤ (l.length : Int) by omega), Int.toNat_natCast, if_pos (show l.length ≤ 11728124029610 by omega)]
  have := toss_l0 l hl hr l.length 0 (by omega)
  simpa using this

/-! impl.within -/
theorem within_eq (a b c : Int) : impl_within.f a b c = some (decide (b ≤ a ∧ a ≤ c)) := by
  unfold impl_within.f
  by_cases h : b ≤ a
  · rw [if_pos h]; simp [h]
  · rw [if_neg h]; simp [h]

/-! impl.sum -/
theorem isum_l0 (l : List Int) (hl : l.length ≤ 9223372036854775806) : ∀ (d i : Nat) (acc : Int), d + i = l.length → Ev (fun k => impl_sum.l0 k acc l (l.length : Int) i) (wsum acc (l.drop i)) := by
  intro d
  induction d with
  | zero =>
    intro i acc hd
    apply Ev.succ
    simp only [impl_sum.l0, if_neg (show ¬ (i : Int) < (l.length : Int) by omega)]
    rw [List.drop_of_length_le (by omega)]
    exact Ev.now _
  | succ d ih =>
    intro i acc hd
    have hi : i < l.length := by omega
    apply Ev.succ
    simp only [impl_sum.l0, if_pos (show (i : Int) < (l.length : Int) by omega), if_pos (show 0 ≤ (i : Int) by omega), rd_get hi, w64 (show (-9223372036854775808) ≤ (i : Int) + 1 by omega) (by omega)]
    rw [List.drop_eq_getElem_cons hi]
    exact ih (i + 1) _ (by omega)
theorem isum_ev (l : List Int) (hl : l.length ≤ 9223372036854775806) : Ev (fun k => impl_sum.f k l) (wsum 0 l) := by
  have := isum_l0 l hl l.length 0 0 (by omega)
  simpa [impl_sum.f] using this

/-! impl.areWithin -/
theorem aw_l0 (l : List Int) (a b : Int) (hl : l.length ≤ 9223372036854775806) : ∀ (d i : Nat), d + i = l.length → ∃ r : Int, Ev (fun k => slices_IndexFunc_int64_int64_impl_areWithin_1.l0 k l (l.length : Int) i a b) r ∧ (decide (r ≥ 0) = !(l.drop i).all fun n => decide (a ≤ n ∧ n ≤ b)) := by
  intro d
  induction d with
  | zero =>
    intro i hd
    refine ⟨-1, ?_, ?_⟩
    · apply Ev.succ
      simp only [slices_IndexFunc_int64_int64_impl_areWithin_1.l0, if_neg (show ¬ (i : Int) < (l.length : Int) by omega)]
      exact Ev.now _
    · rw [List.drop_of_length_le (by omega)]; rfl
  | succ d ih =>
    intro i hd
    have hi : i < l.length := by omega
    obtain ⟨r, hr, he⟩ := ih (i + 1) (by omega)
    by_cases h : a ≤ l[i] ∧ l[i] ≤ b
    · refine ⟨r, ?_, ?_⟩
      · apply Ev.succ
        simp only [slices_IndexFunc_int64_int64_impl_areWithin_1.l0, if_pos (show (i : Int) < (l.length : Int) by omega), if_pos (show 0 ≤ (i : Int) by omega), rd_get hi, impl_areWithin_1.f, within_eq, decide_eq_true h, Option.bind_some, w64 (show (-9223372036854775808) ≤ (i : Int) + 1 by omega) (by omega)]
        simpa using hr
      · rw [he, List.drop_eq_getElem_cons hi, List.all_cons, decide_eq_true h, Bool.true_and]
    · refine ⟨i, ?_, ?_⟩
      · apply Ev.succ
        simp only [slices_IndexFunc_int64_int64_impl_areWithin_1.l0, if_pos (show (i : Int) < (l.length : Int) by omega), if_pos (show 0 ≤ (i : Int) by omega), rd_get hi, impl_areWithin_1.f, within_eq, decide_eq_false h, Option.bind_some]
        simpa using Ev.now _
      · rw [List.drop_eq_getElem_cons hi, List.all_cons, decide_eq_false h, Bool.false_and]; simp
theorem areWithin_ev (l : List Int) (a b : Int) (hl : l.length ≤ 9223372036854775806) : Ev (fun k => impl_areWithin.f k l a b) (l.all fun n => decide (a ≤ n ∧ n ≤ b)) := by
  obtain ⟨r, hr, he⟩ := aw_l0 l a b hl l.length 0 (by omega)
  unfold impl_areWithin.f
  simp only [slices_ContainsFunc_int64_int64_impl_areWithin_1.f, slices_IndexFunc_int64_int64_impl_areWithin_1.f]
  refine Ev.bind (Ev.bind hr (Ev.now _)) ?_
  refine (Ev.now _).to ?_
  rw [he, List.drop_zero, Bool.not_not]

/-! slices.Concat   int64,int64  -/
theorem grow_nil (n : Int) (h0 : 0 ≤ n) (h1 : n < 17592186044416) : slices_Grow_int64_int64_nil.f n = some [] := by
  unfold slices_Grow_int64_int64_nil.f
  rw [w64 (show (-9223372036854775808) ≤ n by omega) (by omega), if_neg (by omega)]
  by_cases h : n > 0
  · rw [if_pos h, if_pos (by omega), if_pos (by simp; omega)]
    simp
  · rw [if_neg h]
theorem rdl_getC {xs : List (List Int)} {i : Nat} (h : i < xs.length) : rd_L1 xs (i : Int) = xs[i] := by
  unfold rd_L1; exact getD_get h
theorem flat_take (l : List (List Int)) (i : Nat) (h : i < l.length) : (l.take (i + 1)).flatten = (l.take i).flatten ++ l[i] := by
  rw [List.take_succ_eq_append_getElem h, List.flatten_append]
  simp
theorem flat_le (l : List (List Int)) (i : Nat) : (l.take i).flatten.length ≤ l.flatten.length := by
  have := congrArg (fun l => (List.flatten l).length) (List.take_append_drop i l)
  simp only [List.flatten_append, List.length_append] at this
  omega
theorem concat_l1 (l : List (List Int)) (hl : l.length ≤ 1048576) (hf : l.flatten.length ≤ 1000000000000) : ∀ (d i : Nat), d + i = l.length → Ev (fun k => slices_Concat_int64_int64.l1 k (l.take i).flatten l (l.length : Int) i) l.flatten := by
  intro d
  induction d with
  | zero =>
    intro i hd
    apply Ev.succ
    simp only [slices_Concat_int64_int64.l1, if_neg (show ¬ (i : Int) < (l.length : Int) by omega)]
    rw [List.take_of_length_le (by omega)]
    exact Ev.now _
  | succ d ih =>
    intro i hd
    have hi : i < l.length := by omega
    have h1 := flat_take l i hi
    have h2 := flat_le l (i + 1)
    rw [h1, List.length_append] at h2
    apply Ev.succ
    simp only [slices_Concat_int64_int64.l1, if_pos (show (i : Int) < (l.length : Int) by omega), if_pos (show 0 ≤ (i : Int) by omega), rdl_getC hi, if_pos (show (l.take i).flatten.length + l[i].length < 17592186044416 by omega), inc hi (by omega), ← h1]
    exact ih (i + 1) (by omega)
theorem concat_l0 (l : List (List Int)) (hl : l.length ≤ 1048576) (hf : l.flatten.length ≤ 1000000000000) : ∀ (d i : Nat), d + i = l.length → Ev (fun k => slices_Concat_int64_int64.l0 k l ((l.take i).flatten.length : Int) l (l.length : Int) i) l.flatten := by
  intro d
  induction d with
  | zero =>
    intro i hd
    have h2 := flat_le l i
    apply Ev.succ
    simp only [slices_Concat_int64_int64.l0, if_neg (show ¬ (i : Int) < (l.length : Int) by omega), grow_nil _ (show 0 ≤ ((l.take i).flatten.length : Int) by omega) (by omega), Option.bind_some]
    exact concat_l1 l hl hf l.length 0 (by omega)
  | succ d ih =>
    intro i hd
    have hi : i < l.length := by omega
    have h1 := flat_take l i hi
    have h2 := flat_le l (i + 1)
    rw [h1, List.length_append] at h2
    have h4 := flat_le l (i + 1)
    have h3 : wrap64 (((l.take i).flatten.length : Int) + (l[i].length : Int)) = ((l.take (i + 1)).flatten.length : Int) := by rw [w64 (by omega) (by omega), h1, List.length_append]; omega
    apply Ev.succ
    simp only [slices_Concat_int64_int64.l0, if_pos (show (i : Int) < (l.length : Int) by omega), if_pos (show 0 ≤ (i : Int) by omega), rdl_getC hi, h3, if_neg (show ¬ ((l.take (i + 1)).flatten.length : Int) < 0 by omega), inc hi (by omega)]
    exact ih (i + 1) (by omega)
theorem concat_ev (l : List (List Int)) (hl : l.length ≤ 1048576) (hf : l.flatten.length ≤ 1000000000000) : Ev (fun k => slices_Concat_int64_int64.f k l) l.flatten := by
  have := concat_l0 l hl hf l.length 0 (by omega)
  unfold slices_Concat_int64_int64.f
  exact this

/-! impl.sums -/
theorem rdl_getS {xs : List (List Int)} {i : Nat} (h : i < xs.length) : rd_L1 xs (i : Int) = xs[i] := by
  unfold rd_L1; exact getD_get h
theorem sums_l0 (l : List (List Int)) (hl : l.length ≤ 1048576) (hr : ∀ r ∈ l, r.length ≤ 1048576) : ∀ (d i : Nat), d + i = l.length → Ev (fun k => impl_sums.l0 k ((l.take i).map (wsum 0)) l (l.length : Int) i) (l.map (wsum 0)) := by
  intro d
  induction d with
  | zero =>
    intro i hd
    apply Ev.succ
    simp only [impl_sums.l0, if_neg (show ¬ (i : Int) < (l.length : Int) by omega)]
    rw [List.take_of_length_le (by omega)]
    exact Ev.now _
  | succ d ih =>
    intro i hd
    have hi : i < l.length := by omega
    have hm := hr l[i] (List.getElem_mem hi)
    apply Ev.succ
    simp only [impl_sums.l0, if_pos (show (i : Int) < (l.length : Int) by omega), if_pos (show 0 ≤ (i : Int) by omega), rdl_getS hi, inc hi (by omega)]
    refine Ev.bind (isum_ev l[i] (by omega)) ?_
    simp only [if_pos (show ((l.take i).map (wsum 0)).length < 17592186044416 by simp; omega)]
    have := ih (i + 1) (by omega)
    rw [List.take_succ_eq_append_getElem hi, List.map_append] at this
    exact this
theorem sums_ev (l : List (List Int)) (hl : l.length ≤ 1048576) (hr : ∀ r ∈ l, r.length ≤ 1048576) : Ev (fun k => impl_sums.f k l) (l.map (wsum 0)) := by
  have := sums_l0 l hl hr l.length 0 (by omega)
  unfold impl_sums.f
  exact this

/-! impl.turned -/
theorem rdl_getT {xs : List (List Int)} {i : Nat} : rd_L1 xs (i : Int) = xs.getD i [] := by
  unfold rd_L1; simp
theorem rdl_headT (xs : List (List Int)) : rd_L1 xs 0 = xs.headD [] := by
  unfold rd_L1; cases xs <;> rfl
theorem rd_getDT {xs : List Int} {i : Nat} : rd xs (i : Int) = xs.getD i 0 := by
  unfold rd; simp
def tcol (l : List (List Int)) (i k : Nat) : List Int := colOf (l.take i) k
theorem turned_l1 (l : List (List Int)) (m i : Nat) (hl : l.length ≤ 1048576) (hm : m ≤ 1048576) (hi : i < l.length) (hr : (l.getD i []).length = m) {R : List (List Int)} (hs : Ev (fun k => impl_turned.l0 k (stair (tcol l) m (i + 1) 0) l (l.length : Int) ((i : Int) + 1)) R) : ∀ (d j : Nat), d + j = m → Ev (fun k => impl_turned.l1 k (stair (tcol l) m i j) l (l.length : Int) i (l.getD i []) (m : Int) j) R := by
  intro d
  induction d with
  | zero =>
    intro j hd
    apply Ev.succ
    have e : j = m := by omega
    subst e
    simp only [impl_turned.l1, if_neg (show ¬ (j : Int) < (j : Int) by omega), inc hi (by omega), stair_end]
    exact hs
  | succ d ih =>
    intro j hd
    have hj : j < m := by omega
    have hlen : (tcol l i j).length ≤ 1048576 := by simp [tcol, colOf]; omega
    apply Ev.succ
    simp only [impl_turned.l1, if_pos (show (j : Int) < (m : Int) by omega), if_pos (show 0 ≤ (j : Int) by omega), if_pos (show (j : Int) < (l.getD i []).length by omega), stair_length, rdl_getT, stair_get (tcol l) m i j j hj, if_neg (show ¬ j < j by omega), if_pos (show (tcol l i j).length < 17592186044416 by omega), inc hj (by omega), Int.toNat_natCast, rd_getDT]
    have e : tcol l i j ++ [(l.getD i []).getD j 0] = tcol l (i + 1) j := (colOf_succ l i j hi).symm
    rw [e, stair_set (tcol l) m i j hj]
    exact ih (j + 1) (by omega)
theorem turned_l0 (l : List (List Int)) (m : Nat) (hl : l.length ≤ 1048576) (hm : m ≤ 1048576) (hr : ∀ i, i < l.length → (l.getD i []).length = m) : ∀ (d i : Nat), d + i = l.length → Ev (fun k => impl_turned.l0 k (stair (tcol l) m i 0) l (l.length : Int) i) ((List.range m).map (colOf l)) := by
  intro d
  induction d with
  | zero =>
    intro i hd
    apply Ev.succ
    simp only [impl_turned.l0, if_neg (show ¬ (i : Int) < (l.length : Int) by omega)]
    refine (Ev.now _).to ?_
    rw [stair_zero]
    refine List.map_congr_left fun k _ => ?_
    rw [tcol, List.take_of_length_le (by omega)]
  | succ d ih =>
    intro i hd
    have hi : i < l.length := by omega
    apply Ev.succ
    simp only [impl_turned.l0, if_pos (show (i : Int) < (l.length : Int) by omega), if_pos (show 0 ≤ (i : Int) by omega), rdl_getT, hr i hi]
    exact turned_l1 l m i hl hm hi (hr i hi) (ih (i + 1) (by omega)) m 0 (by omega)
theorem turned_ev (l : List (List Int)) (hn : 1 ≤ l.length) (hl : l.length ≤ 1048576) (hm : (l.headD []).length ≤ 1048576) (hr : ∀ i, i < l.length → (l.getD i []).length = (l.headD []).length) : Ev (fun k => impl_turned.f k l) ((List.range (l.headD []).length).map (colOf l)) := by
  unfold impl_turned.f
  simp only [if_pos (show 0 < (l.length : Int) by omega), rdl_headT, if_pos (show 0 ≤ ((l.headD []).length : Int) by omega), Int.toNat_natCast, if_pos (show (l.headD []).length ≤ 11728124029610 by omega)]
  have := turned_l0 l (l.headD []).length hl hm hr l.length 0 (by omega)
  rw [stair_zero] at this
  have e : (List.range (l.headD []).length).map (tcol l 0) = List.replicate (l.headD []).length [] := by
    apply List.ext_getElem
    · simp
    · intro k h1 h2
      simp [tcol, colOf]
  rw [e] at this
  exact this

/-! impl.IsDoubly -/
theorem rdl_getV {xs : List (List Int)} {i : Nat} (h : i < xs.length) : rd_L1 xs (i : Int) = xs[i] := by
  unfold rd_L1; exact getD_get h
theorem rdl_headV (xs : List (List Int)) : rd_L1 xs 0 = xs.headD [] := by
  unfold rd_L1; cases xs <;> rfl
def idRow (n : Nat) (r : List Int) : Bool := decide (r.length = n) && r.all fun x => decide (0 ≤ x ∧ x ≤ 1000)
theorem id1_ev (r : List Int) (l : List (List Int)) (hr : r.length ≤ 1048576) : Ev (fun k => impl_IsDoubly_1.f k r l) (!idRow l.length r) := by
  unfold impl_IsDoubly_1.f idRow
  by_cases e : r.length = l.length
  · simp only [if_pos (show (r.length : Int) = l.length by omega), decide_eq_true e, Bool.true_and]
    exact Ev.bind (areWithin_ev r 0 1000 (by omega)) (Ev.now _)
  · simp only [if_neg (show ¬ (r.length : Int) = l.length by omega), decide_eq_false e, Bool.false_and, Bool.not_false]
    exact Ev.now _
theorem idC1_ev (l : List (List Int)) (hl : l.length ≤ 1048576) (hr : ∀ r ∈ l, r.length ≤ 1048576) : Ev (fun k => slices_ContainsFunc_int64_int64_impl_IsDoubly_1.f k l l) (!l.all (idRow l.length)) := by
  obtain ⟨r, hr1, hr2⟩ := find_loop l (fun x => !idRow l.length x) (fun k j => slices_IndexFunc_int64_int64_impl_IsDoubly_1.l0 k l (l.length : Int) j l)
    (by
      apply Ev.succ
      simp only [slices_IndexFunc_int64_int64_impl_IsDoubly_1.l0, if_neg (show ¬ (l.length : Int) < l.length by omega)]
      exact Ev.now _)
    (fun i hi hp => by
      apply Ev.succ
      simp only [slices_IndexFunc_int64_int64_impl_IsDoubly_1.l0, if_pos (show (i : Int) < (l.length : Int) by omega), if_pos (show 0 ≤ (i : Int) by omega), rdl_getV hi]
      refine Ev.bind (id1_ev l[i] l (hr _ (List.getElem_mem hi))) ?_
      simp only [hp, if_true]
      exact Ev.now _)
    (fun i hi hp r hr' => by
      apply Ev.succ
      simp only [slices_IndexFunc_int64_int64_impl_IsDoubly_1.l0, if_pos (show (i : Int) < (l.length : Int) by omega), if_pos (show 0 ≤ (i : Int) by omega), rdl_getV hi]
      refine Ev.bind (id1_ev l[i] l (hr _ (List.getElem_mem hi))) ?_
      simp only [hp, Bool.false_eq_true, if_false, inc hi (by omega)]
      exact hr')
  simp only [slices_ContainsFunc_int64_int64_impl_IsDoubly_1.f, slices_IndexFunc_int64_int64_impl_IsDoubly_1.f]
  refine Ev.bind hr1 ?_
  refine (Ev.now _).to ?_
  rw [hr2, any_not]
theorem idC2_ev (l : List Int) (a : Int) (hl : l.length ≤ 1048576) : Ev (fun k => slices_ContainsFunc_int64_int64_impl_IsDoubly_2.f k l a) (l.any fun x => x != a) := by
  obtain ⟨r, hr1, hr2⟩ := find_loop l (fun x => x != a) (fun k j => slices_IndexFunc_int64_int64_impl_IsDoubly_2.l0 k l (l.length : Int) j a)
    (by
      apply Ev.succ
      simp only [slices_IndexFunc_int64_int64_impl_IsDoubly_2.l0, if_neg (show ¬ (l.length : Int) < l.length by omega)]
      exact Ev.now _)
    (fun i hi hp => by
      apply Ev.succ
      simp only [slices_IndexFunc_int64_int64_impl_IsDoubly_2.l0, if_pos (show (i : Int) < (l.length : Int) by omega), if_pos (show 0 ≤ (i : Int) by omega), rd_get hi, impl_IsDoubly_2.f, Option.bind_some, hp, if_true]
      exact Ev.now _)
    (fun i hi hp r hr' => by
      apply Ev.succ
      simp only [slices_IndexFunc_int64_int64_impl_IsDoubly_2.l0, if_pos (show (i : Int) < (l.length : Int) by omega), if_pos (show 0 ≤ (i : Int) by omega), rd_get hi, impl_IsDoubly_2.f, Option.bind_some, hp, Bool.false_eq_true, if_false, inc hi (by omega)]
      exact hr')
  simp only [slices_ContainsFunc_int64_int64_impl_IsDoubly_2.f, slices_IndexFunc_int64_int64_impl_IsDoubly_2.f]
  refine Ev.bind hr1 ?_
  refine (Ev.now _).to ?_
  rw [hr2]
theorem id_all (l : List (List Int)) : l.all (idRow l.length) = (List.range l.length).all (drow l) := by
  rw [← all_range l (idRow l.length) []]
  rfl
theorem iDB_ev (l : List (List Int)) (hm : l.length ≤ 1048576) (hr : ∀ r ∈ l, r.length ≤ 1048576) : Ev (fun k => impl_IsDoubly.f k l) (DB l) := by
  unfold impl_IsDoubly.f DB
  simp only [impl_size_int64.f, within_eq, Option.bind_some]
  by_cases h : 1 ≤ (l.length : Int) ∧ (l.length : Int) ≤ 6
  · simp only [decide_eq_true h, if_true, Bool.true_and]
    refine Ev.bind (idC1_ev l hm hr) ?_
    rw [id_all]
    cases hv : (List.range l.length).all (drow l) with
    | false =>
      apply Ev.succ
      simp only [impl_IsDoubly.j0, Bool.not_false, if_true, Bool.false_and]
      exact Ev.now _
    | true =>
      have hd : l.headD [] = l.getD 0 [] := by cases l <;> rfl
      have hrow : ∀ i, i < l.length → (l.getD i []).length = l.length := by
        intro i hi
        have := List.all_eq_true.1 hv i (List.mem_range.2 hi)
        simp only [drow, Bool.and_eq_true, decide_eq_true_eq] at this
        exact this.1
      have h0 : (l.headD []).length = l.length := by rw [hd]; exact hrow 0 (by omega)
      apply Ev.succ
      simp only [impl_IsDoubly.j0, Bool.not_true, Bool.false_eq_true, if_false, Bool.true_and, if_pos (show 0 < (l.length : Int) by omega), rdl_headV]
      refine Ev.bind (isum_ev (l.headD []) (by omega)) ?_
      have e0 : wsum 0 (l.headD []) = dR l 0 := by rw [hd]; rfl
      rw [e0]
      have hgd : ∀ i, i < l.length → l.getD i [] ∈ l := fun i hi => by simp [List.getD_eq_getElem?_getD, hi]
      by_cases hp : dR l 0 > 0
      · simp only [if_pos hp]
        refine Ev.bind (sums_ev l hm hr) (Ev.bind (turned_ev l (by omega) hm (by omega) (fun i hi => by rw [h0]; exact hrow i hi)) ?_)
        rw [h0]
        refine Ev.bind (sums_ev _ (by simp; omega) (fun r hr' => ?_)) ?_
        · obtain ⟨k, _, rfl⟩ := List.mem_map.1 hr'
          simp [colOf]; omega
        · refine Ev.bind (concat_ev _ (by simp) (by simp; omega)) (Ev.bind (idC2_ev _ _ (by simp; omega)) ((Ev.now _).to ?_))
          rw [Bool.eq_iff_iff]
          simp only [Bool.not_eq_true', List.any_eq_false, bne_iff_ne, ne_eq, Decidable.not_not, Bool.and_eq_true, decide_eq_true_eq, List.all_eq_true, List.mem_range, List.flatten_cons, List.flatten_nil, List.append_nil, List.mem_append, List.mem_map]
          constructor
          · intro a
            have aR : ∀ i, i < l.length → dR l i = dR l 0 := fun i hi => a _ (.inl ⟨l.getD i [], hgd i hi, rfl⟩)
            have aC : ∀ i, i < l.length → dC l i = dR l 0 := fun i hi => a _ (.inr ⟨colOf l i, ⟨i, hi, rfl⟩, rfl⟩)
            have a0 := aC 0 (by omega)
            exact ⟨fun i hi => ⟨by rw [aR i hi, a0], by rw [aC i hi, a0]⟩, by omega⟩
          · rintro ⟨a, b⟩ x hx
            have a0 := (a 0 (by omega)).1
            rcases hx with ⟨r, hr', rfl⟩ | ⟨r, ⟨k, hk, rfl⟩, rfl⟩
            · obtain ⟨i, hi, rfl⟩ := List.getElem_of_mem hr'
              have := (a i hi).1
              rw [dR, show l.getD i [] = l[i] by simp [List.getD_eq_getElem?_getD, hi]] at this
              rw [this, a0]
            · have := (a k hk).2
              rw [dC] at this
              rw [this, a0]
      · simp only [if_neg hp]
        refine (Ev.now _).to ?_
        symm
        rw [Bool.eq_false_iff]
        intro hc
        simp only [Bool.and_eq_true, decide_eq_true_eq, List.all_eq_true, List.mem_range] at hc
        have := (hc.1 0 (by omega)).1
        omega
  · simp only [decide_eq_false h, Bool.false_eq_true, if_false, Bool.false_and]
    apply Ev.succ
    simp only [impl_IsDoubly.j0, if_true]
    exact Ev.now _

/-! laws.eqInt64S -/
theorem eq_l0 (a b : List Int) (hl : a.length = b.length) (hm : a.length ≤ 9223372036854775806) : ∀ (d i : Nat), d + i = a.length → Ev (fun k => laws_eqInt64S.l0 k a b i) (decide (a.drop i = b.drop i)) := by
  intro d
  induction d with
  | zero =>
    intro i hd
    apply Ev.succ
    simp only [laws_eqInt64S.l0, if_neg (show ¬ (i : Int) < (a.length : Int) by omega)]
    rw [List.drop_of_length_le (by omega), List.drop_of_length_le (by omega)]
    exact Ev.now _
  | succ d ih =>
    intro i hd
    have hi : i < a.length := by omega
    have hi' : i < b.length := by omega
    apply Ev.succ
    simp only [laws_eqInt64S.l0, if_pos (show (i : Int) < (a.length : Int) by omega), if_pos (show 0 ≤ (i : Int) by omega), if_pos (show (i : Int) < (b.length : Int) by omega), rd_get hi, rd_get hi', w64 (show (-9223372036854775808) ≤ (i : Int) + 1 by omega) (by omega)]
    rw [List.drop_eq_getElem_cons hi, List.drop_eq_getElem_cons hi']
    by_cases h : a[i] = b[i]
    · simp only [if_pos h]
      exact (ih (i + 1) (by omega)).to (by simp only [List.cons.injEq, h, true_and])
    · simp only [if_neg h]
      exact (Ev.now _).to (by simp only [List.cons.injEq, h, false_and, decide_false])
theorem eqInt64S_ev (a b : List Int) (hm : a.length ≤ 9223372036854775806) : Ev (fun k => laws_eqInt64S.f k a b) (decide (a = b)) := by
  unfold laws_eqInt64S.f
  by_cases h : a.length = b.length
  · simp only [if_pos (show (a.length : Int) = (b.length : Int) by omega)]
    simpa using eq_l0 a b h hm a.length 0 (by omega)
  · simp only [if_neg (show ¬ (a.length : Int) = (b.length : Int) by omega)]
    exact (Ev.now _).to (by symm; simp; intro e; exact h (by rw [e]))

/-! laws.eqInt64SS -/
theorem rdl_get3 {xs : List (List Int)} {i : Nat} (h : i < xs.length) : rd_L1 xs (i : Int) = xs[i] := by
  unfold rd_L1; exact getD_get h
theorem eqss_l0 (a b : List (List Int)) (hl : a.length = b.length) (hm : a.length ≤ 9223372036854775806) (hr : ∀ r ∈ a, r.length ≤ 9223372036854775806) : ∀ (d i : Nat), d + i = a.length → Ev (fun k => laws_eqInt64SS.l0 k a b i) (decide (a.drop i = b.drop i)) := by
  intro d
  induction d with
  | zero =>
    intro i hd
    apply Ev.succ
    simp only [laws_eqInt64SS.l0, if_neg (show ¬ (i : Int) < (a.length : Int) by omega)]
    rw [List.drop_of_length_le (by omega), List.drop_of_length_le (by omega)]
    exact Ev.now _
  | succ d ih =>
    intro i hd
    have hi : i < a.length := by omega
    have hi' : i < b.length := by omega
    apply Ev.succ
    simp only [laws_eqInt64SS.l0, if_pos (show (i : Int) < (a.length : Int) by omega), if_pos (show 0 ≤ (i : Int) by omega), if_pos (show (i : Int) < (b.length : Int) by omega), rdl_get3 hi, rdl_get3 hi', w64 (show (-9223372036854775808) ≤ (i : Int) + 1 by omega) (by omega)]
    rw [List.drop_eq_getElem_cons hi, List.drop_eq_getElem_cons hi']
    refine Ev.bind (eqInt64S_ev a[i] b[i] (hr _ (List.getElem_mem hi))) ?_
    by_cases h : a[i] = b[i]
    · simp only [decide_eq_true h, if_true]
      exact (ih (i + 1) (by omega)).to (by simp only [List.cons.injEq, h, true_and])
    · simp only [decide_eq_false h, Bool.false_eq_true, if_false]
      exact (Ev.now _).to (by simp only [List.cons.injEq, h, false_and, decide_false])
theorem eqInt64SS_ev (a b : List (List Int)) (hm : a.length ≤ 9223372036854775806) (hr : ∀ r ∈ a, r.length ≤ 9223372036854775806) : Ev (fun k => laws_eqInt64SS.f k a b) (decide (a = b)) := by
  unfold laws_eqInt64SS.f
  by_cases h : a.length = b.length
  · simp only [if_pos (show (a.length : Int) = (b.length : Int) by omega)]
    simpa using eqss_l0 a b h hm hr a.length 0 (by omega)
  · simp only [if_neg (show ¬ (a.length : Int) = (b.length : Int) by omega)]
    exact (Ev.now _).to (by symm; simp; intro e; exact h (by rw [e]))

/-! the law -/
theorem FnExactIsDoubly : laws_FnExactIsDoubly.Pure := by
  intro l hl hr
  apply Ev.rounds
  unfold laws_FnExactIsDoubly.f
  obtain ⟨s, hs, hs2⟩ := szSS_ev l 1048576 hl (fun r h => (hr r h).1) (by omega) (by omega)
  refine Ev.bind hs ?_
  rcases hs2 with rfl | ⟨h0, h1, h2, h3⟩
  · simp only [if_pos (show (-1 : Int) < 0 by omega)]
    exact Ev.now _
  · simp only [if_neg (show ¬ s < 0 by omega)]
    have ht := toInt64SS_ev l h2 h3
    refine Ev.bind ht (Ev.bind (sDB_ev l h2 h3) (Ev.bind ht (Ev.bind (iDB_ev l h2 h3) ?_)))
    simp only [bne_self_eq_false, Bool.false_eq_true, if_false]
    refine Ev.bind ht (Ev.bind (eqInt64SS_ev l l (by omega) (fun r h => by have := h3 r h; omega)) ?_)
    simp only [decide_true, if_true]
    exact Ev.now _


end Go.Proofs.Ytggnpbcekiojdaa.Pure
