/- Proved: the pure half of the law FnExactNearestTable: the printed functions answer true, for every input. No condition. -/
import Derived.Test.YtdcglkdgepdnpaaPFnExactNearestTablex18
import Derived.Test.YtdcglkdgepdnpaaBase
import Derived.Test.YtdcglkdgepdnpaaLists
import Derived.Test.YtdcglkdgepdnpaaCeil
import Derived.Test.YtdcglkdgepdnpaaCodes
import Derived.Test.YtdcglkdgepdnpaaTables
import Derived.Test.YtdcglkdgepdnpaaCut
import Derived.Test.YtdcglkdgepdnpaaNear
import Derived.Test.YtdcglkdgepdnpaaGreat
import Derived.Test.YtdcglkdgepdnpaaBit1
import Derived.Test.YtdcglkdgepdnpaaMarks
import Derived.Test.YtdcglkdgepdnpaaMarksS
namespace Go.Proofs.Ytdcglkdgepdnpaa.Pure
open Go.RowKit Go.Proofs.Ytdcglkdgepdnpaa.PFnExactNearestTable Go.Proofs.YtdcglkdgepdnpaaW.PrintWords Go.Proofs.YtdcglkdgepdnpaaW.PrintLast Go.Proofs.YtdcglkdgepdnpaaW.PrintMore Go.Proofs.Ytdcglkdgepdnpaa.Base
set_option linter.unusedVariables false
set_option linter.unusedSimpArgs false


theorem szS_eq (l : List Int) (a : Int) (hl : l.length ≤ 9223372036854775807) (h0 : 0 ≤ a) (h1 : a ≤ 1048576) : laws_szInt64S.f l a = some (if a < l.length then -1 else a - l.length) := by
  unfold laws_szInt64S.f
  rw [w64 (by omega) (by omega)]
  by_cases h : a < l.length
  · rw [if_pos (by omega), if_pos h]
  · rw [if_neg (by omega), if_neg h]


theorem rdl_get {xs : List (List Int)} {i : Nat} (h : i < xs.length) : rd_L1 xs (i : Int) = xs[i] := by
  unfold rd_L1; exact getD_get h
theorem szSS_l0 (l : List (List Int)) (a : Int) (hl : l.length ≤ 1048576) (hr : ∀ r ∈ l, r.length ≤ 9223372036854775807) (h1 : a ≤ 1048576) : ∀ (d i : Nat) (b : Int), d + i = l.length → 0 ≤ b → b ≤ a → (∀ (j : Nat) (h : j < l.length), j < i → ((l[j]).length : Int) ≤ a) → ∃ r : Int, Ev (fun k => laws_szInt64SS.l0 k l b i) r ∧ (r = -1 ∨ (0 ≤ r ∧ r ≤ a ∧ ∀ x ∈ l, (x.length : Int) ≤ a)) := by
  intro d
  induction d with
  | zero =>
    intro i b hd h0 hb hj
    refine ⟨b, ?_, .inr ⟨h0, hb, fun x hx => ?_⟩⟩
    · apply Ev.succ
      simp only [laws_szInt64SS.l0, if_neg (show ¬ (i : Int) < (l.length : Int) by omega)]
      exact Ev.now _
    · obtain ⟨j, hj', rfl⟩ := List.getElem_of_mem hx
      exact hj j hj' (by omega)
  | succ d ih =>
    intro i b hd h0 hb hj
    have hi : i < l.length := by omega
    have hri := hr l[i] (List.getElem_mem hi)
    by_cases h : b < (l[i]).length
    · refine ⟨-1, ?_, .inl rfl⟩
      apply Ev.succ
      simp only [laws_szInt64SS.l0, if_pos (show (i : Int) < (l.length : Int) by omega), if_pos (show 0 ≤ (i : Int) by omega), rdl_get hi, szS_eq l[i] b hri h0 (by omega), if_pos h, Option.bind_some, if_pos (show (-1 : Int) < 0 by omega)]
      exact Ev.now _
    · obtain ⟨r, hr1, hr2⟩ := ih (i + 1) (b - (l[i]).length) (by omega) (by omega) (by omega) (fun j hj1 hj2 => by
        by_cases e : j = i
        · subst e; omega
        · exact hj j hj1 (by omega))
      refine ⟨r, ?_, hr2⟩
      apply Ev.succ
      simp only [laws_szInt64SS.l0, if_pos (show (i : Int) < (l.length : Int) by omega), if_pos (show 0 ≤ (i : Int) by omega), rdl_get hi, szS_eq l[i] b hri h0 (by omega), if_neg h, Option.bind_some, if_neg (show ¬ b - (l[i]).length < 0 by omega), w64 (show (-9223372036854775808) ≤ (i : Int) + 1 by omega) (by omega)]
      exact hr1
theorem szSS_ev (l : List (List Int)) (a : Int) (hl : l.length ≤ 9223372036854775807) (hr : ∀ r ∈ l, r.length ≤ 9223372036854775807) (h0 : 0 ≤ a) (h1 : a ≤ 1048576) : ∃ r : Int, Ev (fun k => laws_szInt64SS.f k l a) r ∧ (r = -1 ∨ (0 ≤ r ∧ r ≤ a ∧ l.length ≤ 1048576 ∧ ∀ x ∈ l, x.length ≤ 1048576)) := by
  unfold laws_szInt64SS.f
  rw [w64 (show (-9223372036854775808) ≤ a - (l.length : Int) by omega) (by omega)]
  by_cases h : a - (l.length : Int) < 0
  · simp only [if_pos h]
    exact ⟨-1, Ev.now _, .inl rfl⟩
  · simp only [if_neg h]
    obtain ⟨r, h1', h2⟩ := szSS_l0 l a (by omega) hr h1 l.length 0 (a - l.length) (by omega) (by omega) (by omega) (fun j _ hj => by omega)
    refine ⟨r, h1', ?_⟩
    rcases h2 with h2 | ⟨h2, h3, h4⟩
    · exact .inl h2
    · exact .inr ⟨h2, h3, by omega, fun x hx => by have := h4 x hx; omega⟩


theorem szTable_ev (d : Int) (l : List (List Int)) (hl : l.length ≤ 9223372036854775807) (hr : ∀ r ∈ l, r.length ≤ 9223372036854775807) (a : Int) (h0 : 0 ≤ a) (h1 : a ≤ 1048576) : ∃ r : Int, Ev (fun k => laws_szTable.f k d l a) r ∧ (r = -1 ∨ (0 ≤ r ∧ r ≤ a ∧ l.length ≤ 1048576 ∧ ∀ x ∈ l, x.length ≤ 1048576)) := by
  obtain ⟨r, h2, h3⟩ := szSS_ev l a hl hr h0 h1
  unfold laws_szTable.f
  refine ⟨r, Ev.bind h2 ?_, h3⟩
  rcases h3 with rfl | h3
  · exact Ev.now _
  · simp only [if_neg (show ¬ r < 0 by omega)]
    exact Ev.now _


theorem to_step (l : List Int) (i : Nat) (hi : i < l.length) : (l.take i ++ List.replicate (l.length - i) 0).set i l[i] = l.take (i + 1) ++ List.replicate (l.length - (i + 1)) 0 := by
  rw [show l.length - i = (l.length - (i + 1)) + 1 by omega, List.replicate_succ, List.set_append, if_neg (by simp; omega), List.length_take, Nat.min_eq_left (by omega), Nat.sub_self, List.set_cons_zero, List.take_succ_eq_append_getElem hi, List.append_assoc]
  rfl
theorem to_l0 (l : List Int) (hl : l.length ≤ 35184372088832) : ∀ (d i : Nat), d + i = l.length → Ev (fun k => laws_toInt64S.l0 k l (l.take i ++ List.replicate (l.length - i) 0) i) l := by
  intro d
  induction d with
  | zero =>
    intro i hd
    apply Ev.succ
    simp only [laws_toInt64S.l0, if_neg (show ¬ (i : Int) < (l.length : Int) by omega)]
    rw [List.take_of_length_le (by omega), show l.length - i = 0 by omega]
    simpa using Ev.now l
  | succ d ih =>
    intro i hd
    have hi : i < l.length := by omega
    apply Ev.succ
    simp only [laws_toInt64S.l0, if_pos (show (i : Int) < (l.length : Int) by omega), if_pos (show 0 ≤ (i : Int) by omega), if_pos (show (i : Int) < ((l.take i ++ List.replicate (l.length - i) (0 : Int)).length : Int) by simp; omega), rd_get hi, w64 (show (-9223372036854775808) ≤ (i : Int) + 1 by omega) (by omega), Int.toNat_natCast, to_step l i hi]
    exact ih (i + 1) (by omega)
theorem toInt64S_ev (l : List Int) (hl : l.length ≤ 35184372088832) : Ev (fun k => laws_toInt64S.f k l) l := by
  simp only [laws_toInt64S.f, if_pos (show 0 ≤ (l.length : Int) by omega), Int.toNat_natCast, if_pos hl]
  have := to_l0 l hl l.length 0 (by omega)
  simpa using this


theorem toss_step (l : List (List Int)) (i : Nat) (hi : i < l.length) : (l.take i ++ List.replicate (l.length - i) []).set i l[i] = l.take (i + 1) ++ List.replicate (l.length - (i + 1)) [] := by
  rw [show l.length - i = (l.length - (i + 1)) + 1 by omega, List.replicate_succ, List.set_append, if_neg (by simp; omega), List.length_take, Nat.min_eq_left (by omega), Nat.sub_self, List.set_cons_zero, List.take_succ_eq_append_getElem hi, List.append_assoc]
  rfl
theorem rdl_get2 {xs : List (List Int)} {i : Nat} (h : i < xs.length) : rd_L1 xs (i : Int) = xs[i] := by
  unfold rd_L1; exact getD_get h
theorem toss_l0 (l : List (List Int)) (hl : l.length ≤ 1048576) (hr : ∀ r ∈ l, r.length ≤ 1048576) : ∀ (d i : Nat), d + i = l.length → Ev (fun k => laws_toInt64SS.l0 k l (l.take i ++ List.replicate (l.length - i) []) i) l := by
  intro d
  induction d with
  | zero =>
    intro i hd
    apply Ev.succ
    simp only [laws_toInt64SS.l0, if_neg (show ¬ (i : Int) < (l.length : Int) by omega)]
    rw [List.take_of_length_le (by omega), show l.length - i = 0 by omega]
    simpa using Ev.now l
  | succ d ih =>
    intro i hd
    have hi : i < l.length := by omega
    have hri := hr l[i] (List.getElem_mem hi)
    apply Ev.succ
    simp only [laws_toInt64SS.l0, if_pos (show (i : Int) < (l.length : Int) by omega), if_pos (show 0 ≤ (i : Int) by omega), if_pos (show (i : Int) < ((l.take i ++ List.replicate (l.length - i) ([] : List Int)).length : Int) by simp; omega), rdl_get2 hi, w64 (show (-9223372036854775808) ≤ (i : Int) + 1 by omega) (by omega), Int.toNat_natCast]
    refine Ev.bind (toInt64S_ev l[i] (by omega)) ?_
    rw [toss_step l i hi]
    exact ih (i + 1) (by omega)
theorem toInt64SS_ev (l : List (List Int)) (hl : l.length ≤ 1048576) (hr : ∀ r ∈ l, r.length ≤ 1048576) : Ev (fun k => laws_toInt64SS.f k l) l := by
  simp only [laws_toInt64SS.f, if_pos (show 0 ≤ (l.length : Int) by omega), Int.toNat_natCast, if_pos (show l.length ≤ 11728124029610 by omega)]
  have := toss_l0 l hl hr l.length 0 (by omega)
  simpa using this


theorem toTable_ev (d : Int) (l : List (List Int)) (hl : l.length ≤ 1048576) (hr : ∀ r ∈ l, r.length ≤ 1048576) : Ev (fun k => laws_toTable.f k d l) (d, l) := by
  unfold laws_toTable.f
  exact Ev.bind (toInt64SS_ev l hl hr) (Ev.now _)


theorem eq_l0 (a b : List Int) (hl : a.length = b.length) (hm : a.length ≤ 9223372036854775806) : ∀ (d i : Nat), d + i = a.length → Ev (fun k => laws_eqInt64S.l0 k a b i) (decide (a.drop i = b.drop i)) := by
  intro d
  induction d with
  | zero =>
    intro i hd
    apply Ev.succ
    simp only [laws_eqInt64S.l0, if_neg (show ¬ (i : Int) < (a.length : Int) by omega)]
    rw [List.drop_of_length_le (by omega), List.drop_of_length_le (by omega)]
    exact Ev.now _
  | succ d ih =>
    intro i hd
    have hi : i < a.length := by omega
    have hi' : i < b.length := by omega
    apply Ev.succ
    simp only [laws_eqInt64S.l0, if_pos (show (i : Int) < (a.length : Int) by omega), if_pos (show 0 ≤ (i : Int) by omega), if_pos (show (i : Int) < (b.length : Int) by omega), rd_get hi, rd_get hi', w64 (show (-9223372036854775808) ≤ (i : Int) + 1 by omega) (by omega)]
    rw [List.drop_eq_getElem_cons hi, List.drop_eq_getElem_cons hi']
    by_cases h : a[i] = b[i]
    · simp only [if_pos h]
      exact (ih (i + 1) (by omega)).to (by simp only [List.cons.injEq, h, true_and])
    · simp only [if_neg h]
      exact (Ev.now _).to (by simp only [List.cons.injEq, h, false_and, decide_false])
theorem eqInt64S_ev (a b : List Int) (hm : a.length ≤ 9223372036854775806) : Ev (fun k => laws_eqInt64S.f k a b) (decide (a = b)) := by
  unfold laws_eqInt64S.f
  by_cases h : a.length = b.length
  · simp only [if_pos (show (a.length : Int) = (b.length : Int) by omega)]
    simpa using eq_l0 a b h hm a.length 0 (by omega)
  · simp only [if_neg (show ¬ (a.length : Int) = (b.length : Int) by omega)]
    exact (Ev.now _).to (by symm; simp; intro e; exact h (by rw [e]))


theorem rdl_get3 {xs : List (List Int)} {i : Nat} (h : i < xs.length) : rd_L1 xs (i : Int) = xs[i] := by
  unfold rd_L1; exact getD_get h
theorem eqss_l0 (a b : List (List Int)) (hl : a.length = b.length) (hm : a.length ≤ 9223372036854775806) (hr : ∀ r ∈ a, r.length ≤ 9223372036854775806) : ∀ (d i : Nat), d + i = a.length → Ev (fun k => laws_eqInt64SS.l0 k a b i) (decide (a.drop i = b.drop i)) := by
  intro d
  induction d with
  | zero =>
    intro i hd
    apply Ev.succ
    simp only [laws_eqInt64SS.l0, if_neg (show ¬ (i : Int) < (a.length : Int) by omega)]
    rw [List.drop_of_length_le (by omega), List.drop_of_length_le (by omega)]
    exact Ev.now _
  | succ d ih =>
    intro i hd
    have hi : i < a.length := by omega
    have hi' : i < b.length := by omega
    apply Ev.succ
    simp only [laws_eqInt64SS.l0, if_pos (show (i : Int) < (a.length : Int) by omega), if_pos (show 0 ≤ (i : Int) by omega), if_pos (show (i : Int) < (b.length : Int) by omega), rdl_get3 hi, rdl_get3 hi', w64 (show (-9223372036854775808) ≤ (i : Int) + 1 by omega) (by omega)]
    rw [List.drop_eq_getElem_cons hi, List.drop_eq_getElem_cons hi']
    refine Ev.bind (eqInt64S_ev a[i] b[i] (hr _ (List.getElem_mem hi))) ?_
    by_cases h : a[i] = b[i]
    · simp only [decide_eq_true h, if_true]
      exact (ih (i + 1) (by omega)).to (by simp only [List.cons.injEq, h, true_and])
    · simp only [decide_eq_false h, Bool.false_eq_true, if_false]
      exact (Ev.now _).to (by simp only [List.cons.injEq, h, false_and, decide_false])
theorem eqInt64SS_ev (a b : List (List Int)) (hm : a.length ≤ 9223372036854775806) (hr : ∀ r ∈ a, r.length ≤ 9223372036854775806) : Ev (fun k => laws_eqInt64SS.f k a b) (decide (a = b)) := by
  unfold laws_eqInt64SS.f
  by_cases h : a.length = b.length
  · simp only [if_pos (show (a.length : Int) = (b.length : Int) by omega)]
    simpa using eqss_l0 a b h hm hr a.length 0 (by omega)
  · simp only [if_neg (show ¬ (a.length : Int) = (b.length : Int) by omega)]
    exact (Ev.now _).to (by symm; simp; intro e; exact h (by rw [e]))


theorem eqTable_ev (d : Int) (l : List (List Int)) (hl : l.length ≤ 1048576) (hr : ∀ r ∈ l, r.length ≤ 1048576) : Ev (fun k => laws_eqTable.f k d l d l) true := by
  unfold laws_eqTable.f
  simp only [if_true]
  refine Ev.bind (eqInt64SS_ev l l (by omega) (fun r h => by have := hr r h; omega)) ?_
  simp only [decide_true, if_true]
  exact Ev.now _


theorem in_eq (a b c : Int) : spec_l00In.f a b c = some (decide (b ≤ a ∧ a ≤ c)) := by
  unfold spec_l00In.f
  by_cases h : b ≤ a
  · rw [if_pos (show a ≥ b from h)]; simp [h]
  · rw [if_neg (show ¬ a ≥ b from h)]; simp [h]


def rowOk (n : Nat) (r : List Int) : Bool := decide (r.length = n) && r.all fun x => decide (0 ≤ x ∧ x ≤ 100000)
def VT (d : Int) (l : List (List Int)) : Bool := decide (1 ≤ d ∧ d ≤ 1000) && (decide (1 ≤ (l.length : Int) ∧ (l.length : Int) ≤ 5) && (decide (1 ≤ ((l.headD []).length : Int) ∧ ((l.headD []).length : Int) ≤ 5) && l.all (rowOk (l.headD []).length)))
theorem rdl_get4 {xs : List (List Int)} {i : Nat} (h : i < xs.length) : rd_L1 xs (i : Int) = xs[i] := by
  unfold rd_L1; exact getD_get h
theorem rdl_head (xs : List (List Int)) : rd_L1 xs 0 = xs.headD [] := by
  unfold rd_L1; cases xs <;> rfl
theorem side_eq (a : Int) : spec_l05Side.f a = some (decide (1 ≤ a ∧ a ≤ 5)) := by
  unfold spec_l05Side.f
  by_cases h : 1 ≤ a
  · rw [if_pos (show a ≥ 1 from h)]; simp [h]
  · rw [if_neg (show ¬ a ≥ 1 from h)]; simp [h]
theorem vt_l1 (d : Int) (l : List (List Int)) (i : Nat) (hi : i < l.length) (hm : (l[i]).length ≤ 1048576) {r : Bool} (hr : Ev (fun k => spec_l05Is.l0 k (wrap64 ((i : Int) + 1)) d l) r) : Ev (fun k => spec_l05Is.l1 k i 0 d l) (((l[i]).all fun x => decide (0 ≤ x ∧ x ≤ 100000)) && r) := by
  refine all_loop l[i] (fun x => decide (0 ≤ x ∧ x ≤ 100000)) (fun k j => spec_l05Is.l1 k i j d l) ?_ ?_ ?_
  · apply Ev.succ
    simp only [spec_l05Is.l1, if_pos (show 0 ≤ (i : Int) by omega), if_pos (show (i : Int) < (l.length : Int) by omega), rdl_get4 hi, if_neg (show ¬ ((l[i]).length : Int) < (l[i]).length by omega)]
    exact hr
  · intro j hj hp
    apply Ev.succ
    simp only [spec_l05Is.l1, if_pos (show 0 ≤ (i : Int) by omega), if_pos (show (i : Int) < (l.length : Int) by omega), rdl_get4 hi, if_pos (show (j : Int) < (l[i]).length by omega), if_pos (show 0 ≤ (j : Int) by omega), rd_get hj, in_eq, Option.bind_some, hp, Bool.false_eq_true, if_false]
    exact Ev.now _
  · intro j hj hp r hr
    apply Ev.succ
    simp only [spec_l05Is.l1, if_pos (show 0 ≤ (i : Int) by omega), if_pos (show (i : Int) < (l.length : Int) by omega), rdl_get4 hi, if_pos (show (j : Int) < (l[i]).length by omega), if_pos (show 0 ≤ (j : Int) by omega), rd_get hj, in_eq, Option.bind_some, hp, if_true, inc hj (by omega)]
    exact hr
theorem vt_l0 (d : Int) (l : List (List Int)) (hl : l.length ≤ 1048576) (hr : ∀ r ∈ l, r.length ≤ 1048576) : Ev (fun k => spec_l05Is.l0 k 0 d l) (l.all (rowOk (l.headD []).length)) := by
  refine (all_loop l (rowOk (l.headD []).length) (fun k j => spec_l05Is.l0 k j d l) (r := true) ?_ ?_ ?_).to (by rw [Bool.and_true])
  · apply Ev.succ
    simp only [spec_l05Is.l0, if_neg (show ¬ (l.length : Int) < l.length by omega)]
    exact Ev.now _
  · intro i hi hp
    apply Ev.succ
    simp only [spec_l05Is.l0, if_pos (show (i : Int) < (l.length : Int) by omega), if_pos (show 0 ≤ (i : Int) by omega), if_pos (show 0 < (l.length : Int) by omega), rdl_get4 hi, rdl_head]
    by_cases e : (l[i]).length = (l.headD []).length
    · simp only [if_pos (show ((l[i]).length : Int) = (l.headD []).length by omega)]
      simp only [rowOk, decide_eq_true e, Bool.true_and] at hp
      have hm := hr l[i] (List.getElem_mem hi)
      -- whatever stands behind it, the row itself says no
      refine all_no l[i] (L := fun k j => spec_l05Is.l1 k i j d l) (by omega) ?_ hp ?_
      · intro j hj hq
        apply Ev.succ
        simp only [spec_l05Is.l1, if_pos (show 0 ≤ (i : Int) by omega), if_pos (show (i : Int) < (l.length : Int) by omega), rdl_get4 hi, if_pos (show (j : Int) < (l[i]).length by omega), if_pos (show 0 ≤ (j : Int) by omega), rd_get hj, in_eq, Option.bind_some, hq, Bool.false_eq_true, if_false]
        exact Ev.now _
      · intro j hj hq r hr
        apply Ev.succ
        simp only [spec_l05Is.l1, if_pos (show 0 ≤ (i : Int) by omega), if_pos (show (i : Int) < (l.length : Int) by omega), rdl_get4 hi, if_pos (show (j : Int) < (l[i]).length by omega), if_pos (show 0 ≤ (j : Int) by omega), rd_get hj, in_eq, Option.bind_some, hq, if_true, inc hj (by omega)]
        exact hr
    · simp only [if_neg (show ¬ ((l[i]).length : Int) = (l.headD []).length by omega)]
      exact Ev.now _
  · intro i hi hp r hr'
    simp only [rowOk, Bool.and_eq_true, decide_eq_true_eq] at hp
    apply Ev.succ
    simp only [spec_l05Is.l0, if_pos (show (i : Int) < (l.length : Int) by omega), if_pos (show 0 ≤ (i : Int) by omega), if_pos (show 0 < (l.length : Int) by omega), rdl_get4 hi, rdl_head, if_pos (show ((l[i]).length : Int) = (l.headD []).length by omega)]
    refine (vt_l1 d l i hi (hr _ (List.getElem_mem hi)) (r := r) ?_).to (by rw [hp.2, Bool.true_and])
    rw [inc hi (by omega)]
    exact hr'
theorem l05Is_ev (d : Int) (l : List (List Int)) (hl : l.length ≤ 1048576) (hr : ∀ r ∈ l, r.length ≤ 1048576) : Ev (fun k => spec_l05Is.f k d l) (VT d l) := by
  unfold spec_l05Is.f VT
  simp only [in_eq, side_eq, Option.bind_some, rdl_head]
  by_cases h1 : 1 ≤ d ∧ d ≤ 1000
  · by_cases h2 : 1 ≤ (l.length : Int) ∧ (l.length : Int) ≤ 5
    · simp only [decide_eq_true h1, decide_eq_true h2, if_true, if_pos (show 0 < (l.length : Int) by omega), Bool.true_and]
      apply Ev.succ
      by_cases h3 : 1 ≤ ((l.headD []).length : Int) ∧ ((l.headD []).length : Int) ≤ 5
      · simp only [spec_l05Is.j0, decide_eq_true h3, Bool.not_true, Bool.false_eq_true, if_false, Bool.true_and]
        exact vt_l0 d l hl hr
      · simp only [spec_l05Is.j0, decide_eq_false h3, Bool.not_false, if_true, Bool.false_and]
        exact Ev.now _
    · simp only [decide_eq_true h1, decide_eq_false h2, if_true, Bool.false_eq_true, if_false, Bool.false_and, Bool.and_false]
      apply Ev.succ
      simp only [spec_l05Is.j0, if_true]
      exact Ev.now _
  · simp only [decide_eq_false h1, Bool.false_eq_true, if_false, Bool.false_and]
    apply Ev.succ
    simp only [spec_l05Is.j0, if_true]
    exact Ev.now _
theorem vt_facts {d : Int} {l : List (List Int)} (h : VT d l = true) : 1 ≤ l.length ∧ l.length ≤ 5 ∧ (l.headD []).length ≤ 5 ∧ ∀ i, i < l.length → (l.getD i []).length = (l.headD []).length := by
  simp only [VT, rowOk, Bool.and_eq_true, List.all_eq_true, decide_eq_true_iff] at h
  obtain ⟨_, h2, h3, h4⟩ := h
  refine ⟨by omega, by omega, by omega, fun i hi => ?_⟩
  have := h4 (l.getD i []) (by simp [List.getD_eq_getElem?_getD, hi])
  exact this.1


theorem tdiv_mul_range {a b m : Int} (hb : 0 < b) (h1 : -m ≤ a) (h2 : a ≤ m) : -m ≤ a.tdiv b * b ∧ a.tdiv b * b ≤ m := by
  have h := ediv_bounds (a := a) hb
  rcases tdiv_cases (a := a) hb with ⟨e, _, h3⟩ | ⟨e, _, h3, h4⟩
  · rw [e]
    rcases h3 with h3 | h3
    · have : 0 ≤ a / b * b := Int.mul_nonneg (Int.ediv_nonneg h3 (by omega)) (by omega)
      omega
    · have := Int.emod_add_mul_ediv a b
      have h5 : b * (a / b) = (a / b) * b := Int.mul_comm _ _
      omega
  · have h5 : (a / b + 1) * b = a / b * b + b := by rw [Int.add_mul, Int.one_mul]
    have h6 : a / b < 0 := Int.ediv_neg_of_neg_of_pos h3 hb
    have h7 : (a / b + 1) * b ≤ 0 * b := Int.mul_le_mul_of_nonneg_right (by omega) (by omega)
    rw [e]
    omega
theorem sfloor_eq {a b : Int} (hb : 0 < b) (h1 : -9223372036854775807 ≤ a) (h2 : a ≤ 9223372036854775807) : spec_l01Floor.f a b = some (a / b) := by
  have r1 := tdiv_range hb h1 h2 (by omega)
  have r2 := tdiv_mul_range hb h1 h2
  have hf := floorA (a := a) hb
  have e1 : wrap64 (a.tdiv b) = a.tdiv b := w64 (by omega) (by omega)
  have e2 : wrap64 (a.tdiv b * b) = a.tdiv b * b := w64 (by omega) (by omega)
  unfold spec_l01Floor.f
  rw [if_neg (by omega), e1, e2]
  by_cases h : a.tdiv b * b > a
  · rw [if_pos h] at hf
    rw [if_pos h, w64 (by omega) (by omega), hf]
  · rw [if_neg h] at hf
    rw [if_neg h, hf]


theorem ceil_eq {a b : Int} (hb : 0 < b) (hb2 : b ≤ 1000000) (h1 : -1000000000000 ≤ a) (h2 : a ≤ 1000000000000) : spec_l01Ceil.f a b = some (ceilOf a b) := by
  have hr := ceil_range (m := 1000000000000) hb h1 h2 (by omega)
  unfold spec_l01Ceil.f ceilOf
  rw [w64 (show (-9223372036854775808) ≤ -a by omega) (by omega), sfloor_eq hb (by omega) (by omega), Option.bind_some, w64 (by omega) (by omega)]


theorem rdl_nx {xs : List (List Int)} {i : Nat} : rd_L1 xs (i : Int) = xs.getD i [] := by
  unfold rd_L1; rfl
theorem rd_nx {xs : List Int} {i : Nat} : rd xs (i : Int) = xs.getD i 0 := by
  unfold rd; rw [Int.toNat_natCast]
def cl (d x : Int) : Int × Bool := (x / d, decide (x / d ≠ ceilOf x d))
theorem nx_snoc : ∀ (C : List (Int × Bool)) (y : List Int) (c : Int × Bool) (b : Int), C.length = y.length → nx (C ++ [c]) (y ++ [b]) = if c.2 = true ∧ b = c.1 then (true, y ++ [b + 1]) else ((nx C y).1, (nx C y).2 ++ [if c.2 = true then c.1 else b])
  | [], [], c, b, _ => by
    rw [List.nil_append, List.nil_append, nx]
    by_cases o : c.2 = true
    · by_cases e : b = c.1
      · simp [o, e, nx]
      · simp [o, e, nx]
    · simp [o, nx]
  | [], y :: ys, _, _, h => by cases h
  | C :: Cs, [], _, _, h => by cases h
  | C :: Cs, y :: ys, c, b, h => by
    have ih := nx_snoc Cs ys c b (by simpa using h)
    rw [List.cons_append, List.cons_append, nx, ih, nx]
    by_cases e : c.2 = true ∧ b = c.1
    · simp only [if_pos e, if_true, List.cons_append]
    · simp only [if_neg e]
      by_cases p : (nx Cs ys).1 = true
      · simp only [if_pos p, List.cons_append]
      · simp only [if_neg p]
        by_cases o : C.2 = true
        · simp only [if_pos o]
          by_cases q : y = C.1
          · simp only [if_pos q, List.cons_append]
          · simp only [if_neg q, List.cons_append]
        · simp only [if_neg o, List.cons_append]
theorem at_mid {α : Type} (A : List α) (x d : α) (B : List α) : (A ++ x :: B).getD A.length d = x := by
  rw [List.getD_eq_getElem?_getD, List.getElem?_append_right (Nat.le_refl _)]; simp
theorem set_mid {α : Type} (A : List α) (x y : α) (B : List α) : (A ++ x :: B).set A.length y = A ++ y :: B := by
  rw [List.set_append_right _ _ (Nat.le_refl _)]; simp
theorem nx_l1 {d : Int} (hd : 1 ≤ d ∧ d ≤ 1000) (T : List (List Int)) (A B : List (List Int)) (R : List Int) (hT : A.length < T.length) (hR : T.getD A.length [] = R) (hb : ∀ x ∈ R, 0 ≤ x ∧ x ≤ 1000000) (hn : R.length ≤ 1048576) : ∀ (m : Nat) (y s : List Int), y.length = m → m + s.length = R.length → (∀ x ∈ y, -1000000 ≤ x ∧ x ≤ 1000000) → ∀ {z : Bool × List (List Int)}, ((nx ((R.take m).map (cl d)) y).1 = false → Ev (fun k => spec_l05Next.l0 k (wrap64 ((A.length : Int) - 1)) (A ++ ((nx ((R.take m).map (cl d)) y).2 ++ s) :: B) d T) z) → Ev (fun k => spec_l05Next.l1 k (A.length : Int) ((m : Int) - 1) (A ++ (y ++ s) :: B) d T) (if (nx ((R.take m).map (cl d)) y).1 = true then (true, A ++ ((nx ((R.take m).map (cl d)) y).2 ++ s) :: B) else z)
  | 0, y, s, hy, hs, _, z, h => by
    obtain rfl := List.length_eq_zero_iff.1 hy
    have e : nx ((R.take 0).map (cl d)) [] = (false, []) := by simp [nx]
    rw [e] at h ⊢
    apply Ev.succ
    simp only [spec_l05Next.l1, if_neg (show ¬ (((0 : Nat) : Int) - 1) ≥ 0 by omega), Bool.false_eq_true, if_false]
    exact h rfl
  | m + 1, y, s, hy, hs, hyb, z, h => by
    have hm : m < R.length := by omega
    obtain ⟨y', b, rfl⟩ : ∃ y' b, y = y' ++ [b] := ⟨y.dropLast, y.getLast (by intro e; subst e; simp at hy), (List.dropLast_concat_getLast _).symm⟩
    have hy' : y'.length = m := by simpa using hy
    have hbb := hyb b (by simp)
    have hRm := hb R[m] (List.getElem_mem hm)
    have et : (R.take (m + 1)).map (cl d) = (R.take m).map (cl d) ++ [cl d R[m]] := by rw [List.take_succ_eq_append_getElem hm, List.map_append]; rfl
    have lB : ((R.take m).map (cl d)).length = y'.length := by rw [List.length_map, List.length_take]; omega
    rw [et, nx_snoc _ _ _ _ lB] at h ⊢
    have wB : (A ++ (y' ++ [b] ++ s) :: B).getD A.length [] = y' ++ b :: s := by rw [at_mid]; simp
    have hrl : (y' ++ b :: s).length = R.length := by simp; omega
    have gB : (y' ++ b :: s).getD m 0 = b := by rw [← hy']; exact at_mid y' b 0 s
    have hRg : R.getD m 0 = R[m] := by rw [List.getD_eq_getElem?_getD, List.getElem?_eq_getElem hm]; rfl
    apply Ev.succ
    simp only [spec_l05Next.l1, show (((m + 1 : Nat) : Int) - 1) = (m : Int) by omega, if_pos (show (m : Int) ≥ 0 by omega), if_pos (show (0 : Int) ≤ (A.length : Int) by omega), if_pos (show (A.length : Int) < (T.length : Int) by omega), if_pos (show (0 : Int) ≤ (m : Int) by omega), rdl_nx, hR, if_pos (show (m : Int) < (R.length : Int) by omega), rd_nx, hRg, sfloor_eq (show 0 < d by omega) (show -9223372036854775807 ≤ R[m] by omega) (by omega), ceil_eq (show 0 < d by omega) (show d ≤ 1000000 by omega) (show -1000000000000 ≤ R[m] by omega) (by omega), Option.bind_some]
    have w1 : wrap64 ((m : Int) - 1) = (m : Int) - 1 := w64 (by omega) (by omega)
    have es : ∀ v, (y' ++ b :: s).set m v = y' ++ v :: s := fun v => by rw [← hy']; exact set_mid y' b v s
    by_cases o : R[m] / d = ceilOf R[m] d
    · have hcf : ¬ (cl d R[m]).2 = true := by simp [cl, o]
      rw [if_neg (show ¬ ((cl d R[m]).2 = true ∧ b = (cl d R[m]).1) from fun h => hcf h.1), if_neg hcf] at h ⊢
      simp only [List.append_assoc, List.singleton_append] at h ⊢
      simp only [if_pos o, w1]
      exact nx_l1 hd T A B R hT hR hb hn m y' (b :: s) hy' (by rw [List.length_cons]; omega) (fun x hx => hyb x (by simp [hx])) h
    · have hct : (cl d R[m]).2 = true := by simp [cl, o]
      simp only [if_neg o, wB, hrl, gB, List.length_append, List.length_cons, if_pos (show (A.length : Int) < ((A.length + (B.length + 1) : Nat) : Int) by omega), Int.toNat_natCast]
      simp only [if_pos (show (m : Int) < (R.length : Int) by omega)]
      by_cases e : b = R[m] / d
      · rw [if_pos (show (cl d R[m]).2 = true ∧ b = (cl d R[m]).1 from ⟨hct, e⟩)]
        simp only [if_pos e, if_true]
        rw [w64 (by omega) (by omega), set_mid, es]
        simp only [List.append_assoc, List.singleton_append]
        exact Ev.now _
      · rw [if_neg (show ¬ ((cl d R[m]).2 = true ∧ b = (cl d R[m]).1) from fun h => e h.2), if_pos hct] at h ⊢
        simp only [List.append_assoc, List.singleton_append] at h ⊢
        simp only [if_neg e, w1]
        rw [set_mid, es]
        exact nx_l1 hd T A B R hT hR hb hn m y' (R[m] / d :: s) hy' (by rw [List.length_cons]; omega) (fun x hx => hyb x (by simp [hx])) h
theorem nxR_snoc : ∀ (C : List (List (Int × Bool))) (A : List (List Int)) (c : List (Int × Bool)) (x : List Int), C.length = A.length → nxR (C ++ [c]) (A ++ [x]) = if (nx c x).1 = true then (true, A ++ [(nx c x).2]) else ((nxR C A).1, (nxR C A).2 ++ [(nx c x).2])
  | [], [], c, x, _ => by
    rw [List.nil_append, List.nil_append, nxR]
    by_cases e : (nx c x).1 = true
    · simp [nxR, e]
    · simp [nxR, e]
  | [], y :: ys, _, _, h => by cases h
  | C :: Cs, [], _, _, h => by cases h
  | C :: Cs, y :: ys, c, x, h => by
    have ih := nxR_snoc Cs ys c x (by simpa using h)
    rw [List.cons_append, List.cons_append, nxR, ih, nxR]
    by_cases e : (nx c x).1 = true
    · simp only [if_pos e, if_true, List.cons_append]
    · simp only [if_neg e]
      by_cases p : (nxR Cs ys).1 = true
      · simp only [if_pos p, List.cons_append]
      · simp only [if_neg p, List.cons_append]
theorem nx_l0 {d : Int} (hd : 1 ≤ d ∧ d ≤ 1000) (T : List (List Int)) (hb : ∀ r ∈ T, ∀ x ∈ r, 0 ≤ x ∧ x ≤ 1000000) (hn : ∀ r ∈ T, r.length ≤ 1048576) (hT : T.length ≤ 1048576) : ∀ (m : Nat) (A P : List (List Int)), A.length = m → m + P.length = T.length → (∀ i, i < m → (A.getD i []).length = (T.getD i []).length) → (∀ r ∈ A, ∀ x ∈ r, -1000000 ≤ x ∧ x ≤ 1000000) → Ev (fun k => spec_l05Next.l0 k ((m : Int) - 1) (A ++ P) d T) ((nxR ((T.take m).map fun r => r.map (cl d)) A).1, (nxR ((T.take m).map fun r => r.map (cl d)) A).2 ++ P)
  | 0, A, P, hA, _, _, _ => by
    obtain rfl := List.length_eq_zero_iff.1 hA
    apply Ev.succ
    simp only [spec_l05Next.l0, if_neg (show ¬ (((0 : Nat) : Int) - 1) ≥ 0 by omega)]
    exact (Ev.now _).to (by simp [nxR])
  | m + 1, A, P, hA, hP, hl, hx => by
    have hm : m < T.length := by omega
    obtain ⟨A', x, rfl⟩ : ∃ A' x, A = A' ++ [x] := ⟨A.dropLast, A.getLast (by intro e; subst e; simp at hA), (List.dropLast_concat_getLast _).symm⟩
    have hA' : A'.length = m := by simpa using hA
    have hTg : T.getD m [] = T[m] := by rw [List.getD_eq_getElem?_getD, List.getElem?_eq_getElem hm]; rfl
    have hxl : x.length = (T[m]).length := by
      have := hl m (by omega)
      rw [hTg, show (A' ++ [x]).getD m [] = x by rw [← hA']; exact at_mid A' x [] []] at this
      exact this
    have et : (T.take (m + 1)).map (fun r => r.map (cl d)) = (T.take m).map (fun r => r.map (cl d)) ++ [(T[m]).map (cl d)] := by rw [List.take_succ_eq_append_getElem hm, List.map_append]; rfl
    have hmem : T[m] ∈ T := List.getElem_mem hm
    have ih := nx_l0 hd T hb hn hT m A' ((nx ((T[m]).map (cl d)) x).2 :: P) hA' (by rw [List.length_cons]; omega) (fun i hi => by
      have := hl i (by omega)
      rwa [List.getD_eq_getElem?_getD, List.getElem?_append_left (by omega), ← List.getD_eq_getElem?_getD] at this) (fun r hr => hx r (by simp [hr]))
    have h1 := nx_l1 hd T A' P (T[m]) (by omega) (by rw [hA']; exact hTg) (hb _ hmem) (hn _ hmem) (T[m]).length x [] hxl (by simp) (hx x (by simp)) (z := ((nxR ((T.take m).map fun r => r.map (cl d)) A').1, (nxR ((T.take m).map fun r => r.map (cl d)) A').2 ++ (nx ((T[m]).map (cl d)) x).2 :: P)) (fun _ => by
      rw [hA', w64 (by omega) (by omega), List.take_length, List.append_nil]
      exact ih)
    rw [List.take_length, List.append_nil, List.append_nil, hA'] at h1
    rw [et, nxR_snoc _ _ _ _ (by rw [List.length_map, List.length_take]; omega)]
    have wB : (A' ++ x :: P).getD m [] = x := by rw [← hA']; exact at_mid A' x [] P
    apply Ev.succ
    simp only [spec_l05Next.l0, show (((m + 1 : Nat) : Int) - 1) = (m : Int) by omega, if_pos (show (m : Int) ≥ 0 by omega), if_pos (show (0 : Int) ≤ (m : Int) by omega), List.append_assoc, List.singleton_append, rdl_nx, wB, List.length_append, List.length_cons, hA', if_pos (show (m : Int) < ((m + (P.length + 1) : Nat) : Int) by omega), hxl]
    have hw := hn _ hmem
    rw [w64 (by omega) (by omega)]
    refine h1.to ?_
    by_cases e : (nx ((T[m]).map (cl d)) x).1 = true
    · simp only [if_pos e, List.append_assoc, List.singleton_append]
    · simp only [if_neg e, List.append_assoc, List.singleton_append]
theorem next_ev {d : Int} (hd : 1 ≤ d ∧ d ≤ 1000) (T : List (List Int)) (hb : ∀ r ∈ T, ∀ x ∈ r, 0 ≤ x ∧ x ≤ 1000000) (hn : ∀ r ∈ T, r.length ≤ 1048576) (hT : T.length ≤ 1048576) (A : List (List Int)) (hA : A.length = T.length) (hl : ∀ i, i < T.length → (A.getD i []).length = (T.getD i []).length) (hx : ∀ r ∈ A, ∀ x ∈ r, -1000000 ≤ x ∧ x ≤ 1000000) : Ev (fun k => spec_l05Next.f k d T A) (nxR (T.map fun r => r.map (cl d)) A) := by
  have h := nx_l0 hd T hb hn hT T.length A [] hA (by simp) hl hx
  rw [List.take_length, List.append_nil, List.append_nil] at h
  unfold spec_l05Next.f
  rw [hA, w64 (by omega) (by omega)]
  exact h


def isRound (n a b : Int) : Bool := decide (a / b ≤ n ∧ n ≤ ceilOf a b)
theorem ceil_floor {a b : Int} (hb : 0 < b) : a / b ≤ ceilOf a b ∧ ceilOf a b ≤ a / b + 1 := by
  unfold ceilOf
  have h1 := Int.emod_add_mul_ediv a b
  have h2 := Int.emod_nonneg a (show b ≠ 0 by omega)
  have h3 := Int.emod_lt_of_pos a hb
  have e : -a = -(a / b) * b + -(a % b) := by rw [Int.neg_mul]; rw [Int.mul_comm] at h1; omega
  have e2 : (-a) / b = -(a / b) + -(a % b) / b := by rw [e, Int.add_comm, Int.add_mul_ediv_right _ _ (show b ≠ 0 by omega), Int.add_comm]
  have l : -1 ≤ -(a % b) / b := by rw [Int.le_ediv_iff_mul_le hb]; omega
  have u : -(a % b) / b ≤ 0 := by
    by_cases z : a % b = 0
    · rw [z]; simp
    · have := Int.ediv_neg_of_neg_of_pos (show -(a % b) < 0 by omega) hb
      omega
  omega
theorem round_eq {n a b : Int} (hb : 0 < b) (hb2 : b ≤ 1000000) (h1 : -1000000000000 ≤ a) (h2 : a ≤ 1000000000000) : spec_l05Round.f n a b = some (isRound n a b) := by
  have hc := ceil_floor (a := a) hb
  unfold spec_l05Round.f isRound
  rw [sfloor_eq hb (by omega) (by omega), Option.bind_some, ceil_eq hb hb2 h1 h2, Option.bind_some]
  by_cases c : n = a / b
  · rw [if_pos c, decide_eq_true (by omega)]
  · rw [if_neg c]
    congr 1
    rw [Bool.eq_iff_iff, beq_iff_eq, decide_eq_true_iff]
    constructor <;> intro h <;> omega


theorem rdl_getE {xs : List (List Int)} {i : Nat} : rd_L1 xs (i : Int) = xs.getD i [] := by
  unfold rd_L1; simp
theorem rd_getE {xs : List Int} {i : Nat} : rd xs (i : Int) = xs.getD i 0 := by
  unfold rd; simp
def elRow (d : Int) (T X : List (List Int)) (i : Nat) : Bool := decide ((X.getD i []).length = (T.getD i []).length) && (List.range (X.getD i []).length).all fun j => isRound ((X.getD i []).getD j 0) ((T.getD i []).getD j 0) d
def EL (d : Int) (T X : List (List Int)) : Bool := decide (X.length = T.length) && (List.range X.length).all (elRow d T X)
theorem el_l1 (d : Int) (T X : List (List Int)) (i : Nat) (hd : 1 ≤ d ∧ d ≤ 1000) (hX : X.length ≤ 1048576) (hi : i < X.length) (hT : X.length = T.length) (hl : (X.getD i []).length = (T.getD i []).length) (hm : (X.getD i []).length ≤ 1048576) (hv : ∀ x ∈ T.getD i [], 0 ≤ x ∧ x ≤ 100000) {s : Bool} (hs : Ev (fun k => spec_l05Elements.l0 k X ((i : Int) + 1) d T) s) : Ev (fun k => spec_l05Elements.l1 k X i 0 d T) (((List.range (X.getD i []).length).all fun j => isRound ((X.getD i []).getD j 0) ((T.getD i []).getD j 0) d) && s) := by
  refine all_step (X.getD i []).length (fun j => isRound ((X.getD i []).getD j 0) ((T.getD i []).getD j 0) d) (fun k j => spec_l05Elements.l1 k X i j d T) ?_ ?_
  · apply Ev.succ
    simp only [spec_l05Elements.l1, if_pos (show 0 ≤ (i : Int) by omega), if_pos (show (i : Int) < X.length by omega), rdl_getE, if_neg (show ¬ ((X.getD i []).length : Int) < (X.getD i []).length by omega), inc hi (by omega)]
    exact hs
  · intro j hj q hq
    have hx := hv ((T.getD i []).getD j 0) (getD_mem (by omega))
    apply Ev.succ
    simp only [spec_l05Elements.l1, if_pos (show 0 ≤ (i : Int) by omega), if_pos (show (i : Int) < X.length by omega), rdl_getE, if_pos (show (j : Int) < (X.getD i []).length by omega), if_pos (show 0 ≤ (j : Int) by omega), if_pos (show (i : Int) < T.length by omega), if_pos (show (j : Int) < (T.getD i []).length by omega), rd_getE, round_eq (show 0 < d by omega) (by omega) (show -1000000000000 ≤ (T.getD i []).getD j 0 by omega) (by omega), Option.bind_some, inc hj (by omega)]
    cases isRound ((X.getD i []).getD j 0) ((T.getD i []).getD j 0) d with
    | true =>
      simp only [if_true, Bool.true_and]
      exact hq
    | false =>
      simp only [Bool.false_eq_true, if_false, Bool.false_and]
      exact Ev.now _
theorem elements_ev (d : Int) (T X : List (List Int)) (hd : 1 ≤ d ∧ d ≤ 1000) (hX : X.length ≤ 1048576) (hr : ∀ r ∈ X, r.length ≤ 1048576) (hv : ∀ i, i < T.length → ∀ x ∈ T.getD i [], 0 ≤ x ∧ x ≤ 100000) : Ev (fun k => spec_l05Elements.f k d T X) (EL d T X) := by
  unfold spec_l05Elements.f EL
  by_cases e : X.length = T.length
  · simp only [if_pos (show (X.length : Int) = T.length by omega), decide_eq_true e, Bool.true_and]
    have := all_step X.length (elRow d T X) (fun k i => spec_l05Elements.l0 k X i d T) (r := true) ?_ ?_
    · rw [Bool.and_true] at this
      exact this
    · apply Ev.succ
      simp only [spec_l05Elements.l0, if_neg (show ¬ (X.length : Int) < X.length by omega)]
      exact Ev.now _
    · intro i hi s hs
      have hm := hr (X.getD i []) (by simp [List.getD_eq_getElem?_getD, hi])
      apply Ev.succ
      simp only [spec_l05Elements.l0, if_pos (show (i : Int) < X.length by omega), if_pos (show 0 ≤ (i : Int) by omega), if_pos (show (i : Int) < T.length by omega), rdl_getE, elRow]
      by_cases c : (X.getD i []).length = (T.getD i []).length
      · simp only [if_pos (show ((X.getD i []).length : Int) = (T.getD i []).length by omega), decide_eq_true c, Bool.true_and]
        exact el_l1 d T X i hd hX hi e c hm (hv i (by omega)) hs
      · simp only [if_neg (show ¬ ((X.getD i []).length : Int) = (T.getD i []).length by omega), decide_eq_false c, Bool.false_and]
        exact Ev.now _
  · simp only [if_neg (show ¬ (X.length : Int) = T.length by omega), decide_eq_false e, Bool.false_and]
    exact Ev.now _


theorem ssum_l0 (l : List Int) (hl : l.length ≤ 9223372036854775806) : ∀ (d i : Nat) (acc : Int), d + i = l.length → Ev (fun k => spec_l01Sum.l0 k l acc i) (wsum acc (l.drop i)) := by
  intro d
  induction d with
  | zero =>
    intro i acc hd
    apply Ev.succ
    simp only [spec_l01Sum.l0, if_neg (show ¬ (i : Int) < (l.length : Int) by omega)]
    rw [List.drop_of_length_le (by omega)]
    exact Ev.now _
  | succ d ih =>
    intro i acc hd
    have hi : i < l.length := by omega
    apply Ev.succ
    simp only [spec_l01Sum.l0, if_pos (show (i : Int) < (l.length : Int) by omega), if_pos (show 0 ≤ (i : Int) by omega), rd_get hi, w64 (show (-9223372036854775808) ≤ (i : Int) + 1 by omega) (by omega)]
    rw [List.drop_eq_getElem_cons hi]
    exact ih (i + 1) _ (by omega)
theorem ssum_ev (l : List Int) (hl : l.length ≤ 9223372036854775806) : Ev (fun k => spec_l01Sum.f k l) (wsum 0 l) := by
  have := ssum_l0 l hl l.length 0 0 (by omega)
  simpa [spec_l01Sum.f] using this


theorem rdl_getAc {xs : List (List Int)} {i : Nat} (h : i < xs.length) : rd_L1 xs (i : Int) = xs[i] := by
  unfold rd_L1; exact getD_get h
theorem across_l0 (l : List (List Int)) (hl : l.length ≤ 1048576) (hr : ∀ r ∈ l, r.length ≤ 1048576) : ∀ (d i : Nat), d + i = l.length → Ev (fun k => spec_l05Across.l0 k l ((l.take i).map (wsum 0)) i) (l.map (wsum 0)) := by
  intro d
  induction d with
  | zero =>
    intro i hd
    apply Ev.succ
    simp only [spec_l05Across.l0, if_neg (show ¬ (i : Int) < (l.length : Int) by omega)]
    rw [List.take_of_length_le (by omega)]
    exact Ev.now _
  | succ d ih =>
    intro i hd
    have hi : i < l.length := by omega
    have hm := hr l[i] (List.getElem_mem hi)
    apply Ev.succ
    simp only [spec_l05Across.l0, if_pos (show (i : Int) < (l.length : Int) by omega), if_pos (show 0 ≤ (i : Int) by omega), rdl_getAc hi, inc hi (by omega)]
    refine Ev.bind (ssum_ev l[i] (by omega)) ?_
    simp only [if_pos (show ((l.take i).map (wsum 0)).length < 17592186044416 by simp; omega)]
    have := ih (i + 1) (by omega)
    rw [List.take_succ_eq_append_getElem hi, List.map_append] at this
    exact this
theorem across_ev (l : List (List Int)) (hl : l.length ≤ 1048576) (hr : ∀ r ∈ l, r.length ≤ 1048576) : Ev (fun k => spec_l05Across.f k l) (l.map (wsum 0)) := by
  have := across_l0 l hl hr l.length 0 (by omega)
  unfold spec_l05Across.f
  exact this


theorem rdl_getDn {xs : List (List Int)} {i : Nat} : rd_L1 xs (i : Int) = xs.getD i [] := by
  unfold rd_L1; simp
theorem rdl_headDn (xs : List (List Int)) : rd_L1 xs 0 = xs.headD [] := by
  unfold rd_L1; cases xs <;> rfl
theorem rd_getDn {xs : List Int} {i : Nat} : rd xs (i : Int) = xs.getD i 0 := by
  unfold rd; simp
theorem down_l1 (l : List (List Int)) (m i : Nat) (hl : l.length ≤ 1048576) (hm : m ≤ 1048576) (hi : i < l.length) (hr : (l.getD i []).length = m) {R : List Int} (hs : Ev (fun k => spec_l05Down.l0 k l (stair (dcol l) m (i + 1) 0) ((i : Int) + 1)) R) : ∀ (d j : Nat), d + j = m → Ev (fun k => spec_l05Down.l1 k l (stair (dcol l) m i j) i j) R := by
  intro d
  induction d with
  | zero =>
    intro j hd
    apply Ev.succ
    have e : j = m := by omega
    subst e
    simp only [spec_l05Down.l1, if_pos (show 0 ≤ (i : Int) by omega), if_pos (show (i : Int) < l.length by omega), rdl_getDn, hr, if_neg (show ¬ (j : Int) < (j : Int) by omega), inc hi (by omega), stair_end]
    exact hs
  | succ d ih =>
    intro j hd
    have hj : j < m := by omega
    apply Ev.succ
    simp only [spec_l05Down.l1, if_pos (show 0 ≤ (i : Int) by omega), if_pos (show (i : Int) < l.length by omega), rdl_getDn, hr, if_pos (show (j : Int) < (m : Int) by omega), if_pos (show 0 ≤ (j : Int) by omega), stair_length, rd_getDn, stair_get (dcol l) m i j j hj, if_neg (show ¬ j < j by omega), dcol_succ l i j hi, Int.toNat_natCast, stair_set (dcol l) m i j hj, inc hj (by omega)]
    exact ih (j + 1) (by omega)
theorem down_l0 (l : List (List Int)) (m : Nat) (hl : l.length ≤ 1048576) (hm : m ≤ 1048576) (hr : ∀ i, i < l.length → (l.getD i []).length = m) : ∀ (d i : Nat), d + i = l.length → Ev (fun k => spec_l05Down.l0 k l (stair (dcol l) m i 0) i) ((List.range m).map fun k => wsum 0 (colOf l k)) := by
  intro d
  induction d with
  | zero =>
    intro i hd
    apply Ev.succ
    simp only [spec_l05Down.l0, if_neg (show ¬ (i : Int) < (l.length : Int) by omega)]
    refine (Ev.now _).to ?_
    rw [stair_zero]
    refine List.map_congr_left fun k _ => ?_
    rw [dcol, List.take_of_length_le (by omega)]
  | succ d ih =>
    intro i hd
    have hi : i < l.length := by omega
    apply Ev.succ
    simp only [spec_l05Down.l0, if_pos (show (i : Int) < (l.length : Int) by omega)]
    exact down_l1 l m i hl hm hi (hr i hi) (ih (i + 1) (by omega)) m 0 (by omega)
theorem down_ev (l : List (List Int)) (hn : 1 ≤ l.length) (hl : l.length ≤ 1048576) (hm : (l.headD []).length ≤ 1048576) (hr : ∀ i, i < l.length → (l.getD i []).length = (l.headD []).length) : Ev (fun k => spec_l05Down.f k l) ((List.range (l.headD []).length).map fun k => wsum 0 (colOf l k)) := by
  unfold spec_l05Down.f
  simp only [if_pos (show 0 < (l.length : Int) by omega), rdl_headDn, if_pos (show 0 ≤ ((l.headD []).length : Int) by omega), Int.toNat_natCast, if_pos (show (l.headD []).length ≤ 35184372088832 by omega)]
  have := down_l0 l (l.headD []).length hl hm hr l.length 0 (by omega)
  rw [stair_zero] at this
  have e : (List.range (l.headD []).length).map (dcol l 0) = List.replicate (l.headD []).length 0 := by
    apply List.ext_getElem
    · simp
    · intro k h1 h2
      simp [dcol, colOf, wsum]
  rw [e] at this
  exact this


theorem rd_getR {xs : List Int} {i : Nat} : rd xs (i : Int) = xs.getD i 0 := by
  unfold rd; simp
def rC (d : Int) (T X : List (List Int)) (m : Nat) : Bool := (List.range m).all (fun k => isRound (wsum 0 (colOf X k)) (wsum 0 (colOf T k)) d) && isRound (wsum 0 (X.map (wsum 0))) (wsum 0 (T.map (wsum 0))) d
def rR (d : Int) (T X : List (List Int)) : Bool := (List.range T.length).all fun i => isRound (wsum 0 (X.getD i [])) (wsum 0 (T.getD i [])) d
def TR (d : Int) (T X : List (List Int)) : Bool := EL d T X && (rR d T X && rC d T X (T.headD []).length)
theorem rounds_l1 (d : Int) (T X : List (List Int)) (m : Nat) (hd : 1 ≤ d ∧ d ≤ 1000) (hm : m ≤ 5) (hn : T.length ≤ 5) (hx : X.length ≤ 1048576) (hT : ∀ y ∈ T.map (wsum 0), 0 ≤ y ∧ y ≤ 500000) (hc : ∀ k, k < m → 0 ≤ wsum 0 (colOf T k) ∧ wsum 0 (colOf T k) ≤ 500000) : Ev (fun k => spec_l05Rounds.l1 k (T.map (wsum 0)) (X.map (wsum 0)) ((List.range m).map fun k => wsum 0 (colOf T k)) ((List.range m).map fun k => wsum 0 (colOf X k)) 0 d T) (rC d T X m) := by
  refine all_step m (fun k => isRound (wsum 0 (colOf X k)) (wsum 0 (colOf T k)) d) (fun k i => spec_l05Rounds.l1 k (T.map (wsum 0)) (X.map (wsum 0)) ((List.range m).map fun k => wsum 0 (colOf T k)) ((List.range m).map fun k => wsum 0 (colOf X k)) i d T) ?_ ?_
  · have hb := wsum_bnd (n := 5) hT (by omega) (by simp; exact hn) (by omega)
    apply Ev.succ
    simp only [spec_l05Rounds.l1, List.length_map, List.length_range, if_neg (show ¬ (m : Int) < m by omega)]
    refine Ev.bind (ssum_ev _ (by rw [List.length_map]; omega)) (Ev.bind (ssum_ev _ (by rw [List.length_map]; omega)) ?_)
    simp only [round_eq (show 0 < d by omega) (by omega) (show -1000000000000 ≤ wsum 0 (T.map (wsum 0)) by omega) (by omega), Option.bind_some]
    exact Ev.now _
  · intro i hi s hs
    have hci := hc i hi
    apply Ev.succ
    simp only [spec_l05Rounds.l1, List.length_map, List.length_range, if_pos (show (i : Int) < m by omega), if_pos (show 0 ≤ (i : Int) by omega), rd_getR, getD_range _ _ hi, round_eq (show 0 < d by omega) (by omega) (show -1000000000000 ≤ wsum 0 (colOf T i) by omega) (by omega), Option.bind_some, inc hi (by omega)]
    cases isRound (wsum 0 (colOf X i)) (wsum 0 (colOf T i)) d with
    | true =>
      simp only [if_true, Bool.true_and]
      exact hs
    | false =>
      simp only [Bool.false_eq_true, if_false, Bool.false_and]
      exact Ev.now _
theorem rounds_ev (d : Int) (T X : List (List Int)) (hd : 1 ≤ d ∧ d ≤ 1000) (hn1 : 1 ≤ T.length) (hn : T.length ≤ 5) (hm5 : (T.headD []).length ≤ 5) (hm : ∀ i, i < T.length → (T.getD i []).length = (T.headD []).length) (hv : ∀ i, i < T.length → ∀ x ∈ T.getD i [], 0 ≤ x ∧ x ≤ 100000) (hX : X.length ≤ 1048576) (hr : ∀ r ∈ X, r.length ≤ 1048576) (hrT : ∀ r ∈ T, r.length ≤ 1048576) : Ev (fun k => spec_l05Rounds.f k d T X) (TR d T X) := by
  unfold spec_l05Rounds.f TR
  refine Ev.bind (elements_ev d T X hd hX hr hv) ?_
  cases h : EL d T X with
  | false =>
    simp only [Bool.false_eq_true, if_false, Bool.false_and]
    exact Ev.now _
  | true =>
    simp only [EL, elRow, Bool.and_eq_true, decide_eq_true_eq, List.all_eq_true, List.mem_range] at h
    have lB := h.1
    have hxr : ∀ i, i < X.length → (X.getD i []).length = (T.headD []).length := fun i hi => by rw [(h.2 i hi).1, hm i (by omega)]
    have hx0 : (X.headD []).length = (T.headD []).length := by
      have := hxr 0 (by omega)
      rwa [show X.getD 0 [] = X.headD [] by cases X <;> rfl] at this
    simp only [if_true, Bool.true_and]
    refine Ev.bind (across_ev T (by omega) hrT) (Ev.bind (across_ev X hX hr) ?_)
    have hT := rows_bnd T (fun i hi => by rw [hm i hi]; exact hm5) hv
    unfold rR
    refine all_step T.length (fun i => isRound (wsum 0 (X.getD i [])) (wsum 0 (T.getD i [])) d) (fun k i => spec_l05Rounds.l0 k X (T.map (wsum 0)) (X.map (wsum 0)) i d T) ?_ ?_
    · apply Ev.succ
      simp only [spec_l05Rounds.l0, List.length_map, if_neg (show ¬ (T.length : Int) < T.length by omega)]
      have dT := down_ev T hn1 (by omega) (by omega) hm
      have dX := down_ev X (by omega) hX (by omega) (fun i hi => by rw [hx0]; exact hxr i hi)
      rw [hx0] at dX
      exact Ev.bind dT (Ev.bind dX (rounds_l1 d T X _ hd hm5 hn hX hT (fun k hk => col_bnd T hn hv k (fun i hi => by rw [hm i hi]; exact hk))))
    · intro i hi s hs
      have hb := row_bnd T (fun i hi => by rw [hm i hi]; exact hm5) hv i hi
      apply Ev.succ
      simp only [spec_l05Rounds.l0, List.length_map, if_pos (show (i : Int) < T.length by omega), if_pos (show 0 ≤ (i : Int) by omega), if_pos (show (i : Int) < X.length by omega), rd_getR, getD_map (wsum 0) ([] : List Int) (0 : Int) hi, getD_map (wsum 0) ([] : List Int) (0 : Int) (show i < X.length by omega), round_eq (show 0 < d by omega) (by omega) (show -1000000000000 ≤ wsum 0 (T.getD i []) by omega) (by omega), Option.bind_some, inc hi (by omega)]
      cases isRound (wsum 0 (X.getD i [])) (wsum 0 (T.getD i [])) d with
      | true =>
        simp only [if_true, Bool.true_and]
        exact hs
      | false =>
        simp only [Bool.false_eq_true, if_false, Bool.false_and]
        exact Ev.now _


theorem rdl_B {xs : List (List Int)} {i : Nat} (h : i < xs.length) : rd_L1 xs (i : Int) = xs[i] := by
  unfold rd_L1; exact getD_get h
def FLO (d : Int) (T : List (List Int)) : List (List Int) := T.map fun r => r.map fun x => x / d
def CEI (d : Int) (T : List (List Int)) : List (List Int) := T.map fun r => r.map fun x => ceilOf x d
theorem bounds_l1 (d : Int) (T : List (List Int)) (hd : 1 ≤ d ∧ d ≤ 1000) (hl : T.length ≤ 5) (i : Nat) (hi : i < T.length) (hr : T[i].length ≤ 5) (hv : ∀ x ∈ T[i], 0 ≤ x ∧ x ≤ 100000) {R : List (List Int) × List (List Int)}
    (hend : Ev (fun k => spec_l05Bounds.l0 k T d (FLO d (T.take (i + 1))) (CEI d (T.take (i + 1))) ((i : Int) + 1)) R) : ∀ (m j : Nat), j + m = T[i].length →
    Ev (fun k => spec_l05Bounds.l1 k T d (FLO d (T.take i)) (CEI d (T.take i)) (i : Int) ((T[i].take j).map fun x => x / d) ((T[i].take j).map fun x => ceilOf x d) (j : Int)) R := by
  intro m
  induction m with
  | zero =>
    intro j hj
    apply Ev.succ
    simp only [spec_l05Bounds.l1, if_pos (show 0 ≤ (i : Int) by omega), if_pos (show (i : Int) < (T.length : Int) by omega), rdl_B hi, if_neg (show ¬ (j : Int) < (T[i].length : Int) by omega), if_pos (show (FLO d (T.take i)).length < 5864062014805 by simp [FLO]; omega), if_pos (show (CEI d (T.take i)).length < 5864062014805 by simp [CEI]; omega), inc hi (by omega)]
    rw [show T[i].take j = T[i] from List.take_of_length_le (by omega)]
    have e1 : FLO d (T.take (i + 1)) = FLO d (T.take i) ++ [T[i].map fun x => x / d] := by
      unfold FLO; rw [List.take_succ_eq_append_getElem hi, List.map_append]; rfl
    have e2 : CEI d (T.take (i + 1)) = CEI d (T.take i) ++ [T[i].map fun x => ceilOf x d] := by
      unfold CEI; rw [List.take_succ_eq_append_getElem hi, List.map_append]; rfl
    rw [e1, e2] at hend
    exact hend
  | succ m ih =>
    intro j hj
    have hj' : j < T[i].length := by omega
    have hb := hv T[i][j] (List.getElem_mem hj')
    have := ih (j + 1) (by omega)
    rw [List.take_succ_eq_append_getElem hj', List.map_append, List.map_append] at this
    apply Ev.succ
    simp only [spec_l05Bounds.l1, if_pos (show 0 ≤ (i : Int) by omega), if_pos (show (i : Int) < (T.length : Int) by omega), rdl_B hi, if_pos (show (j : Int) < (T[i].length : Int) by omega), if_pos (show 0 ≤ (j : Int) by omega), rd_get hj', sfloor_eq (show 0 < d by omega) (show -9223372036854775807 ≤ T[i][j] by omega) (by omega), ceil_eq (show 0 < d by omega) (by omega) (show -1000000000000 ≤ T[i][j] by omega) (by omega), Option.bind_some, if_pos (show ((T[i].take j).map fun x => x / d).length < 17592186044416 by simp; omega), if_pos (show ((T[i].take j).map fun x => ceilOf x d).length < 17592186044416 by simp; omega), inc hj' (by omega)]
    exact this
theorem bounds_ev (d : Int) (T : List (List Int)) (hd : 1 ≤ d ∧ d ≤ 1000) (hl : T.length ≤ 5) (hr : ∀ r ∈ T, r.length ≤ 5 ∧ ∀ x ∈ r, 0 ≤ x ∧ x ≤ 100000) : Ev (fun k => spec_l05Bounds.f k T d) (FLO d T, CEI d T) := by
  have key : ∀ (m i : Nat), i + m = T.length → Ev (fun k => spec_l05Bounds.l0 k T d (FLO d (T.take i)) (CEI d (T.take i)) (i : Int)) (FLO d T, CEI d T) := by
    intro m
    induction m with
    | zero =>
      intro i hi
      apply Ev.succ
      simp only [spec_l05Bounds.l0, if_neg (show ¬ (i : Int) < (T.length : Int) by omega)]
      rw [List.take_of_length_le (by omega)]
      exact Ev.now _
    | succ m ih =>
      intro i hi
      have hi' : i < T.length := by omega
      have h1 := hr T[i] (List.getElem_mem hi')
      apply Ev.succ
      simp only [spec_l05Bounds.l0, if_pos (show (i : Int) < (T.length : Int) by omega)]
      exact bounds_l1 d T hd hl i hi' h1.1 h1.2 (ih (i + 1) (by omega)) T[i].length 0 (by omega)
  have := key T.length 0 (by omega)
  unfold spec_l05Bounds.f
  exact this


theorem ceilOf_ne {d x : Int} (hd : 1 ≤ d) : x / d ≠ ceilOf x d ↔ ¬ x % d = 0 := by
  have h1 := Int.emod_def x d
  have h2 := Int.emod_nonneg x (show d ≠ 0 by omega)
  have h3 := ceil_le (a := x) (b := d) (k := x / d) (by omega)
  have h4 := (ceil_le (a := x) (b := d) (k := ceilOf x d) (by omega)).1 (Int.le_refl _)
  have e : x / d * d = d * (x / d) := Int.mul_comm _ _
  have h5 : x / d ≤ ceilOf x d := Int.le_of_mul_le_mul_right (a := d) (show x / d * d ≤ ceilOf x d * d by omega) (by omega)
  constructor
  · intro hne hz
    exact hne (by have := h3.2 (by omega); omega)
  · intro hz he
    have := h3.1 (by omega)
    omega
theorem cl_open {d x : Int} (hd : 1 ≤ d) (hx : 0 ≤ x) : (cl d x).2 = true ↔ ¬ Int.tmod x d = 0 := by
  unfold cl
  rw [Int.tmod_eq_emod_of_nonneg hx, decide_eq_true_eq, ceilOf_ne hd]
theorem few_l1 {d : Int} (hd : 1 ≤ d) (T : List (List Int)) (i : Nat) (hi : i < T.length) (R : List Int) (hR : T.getD i [] = R) (hb : ∀ x ∈ R, 0 ≤ x) (hl : R.length ≤ 1048576) {s : Bool} : ∀ (e j n : Nat), j + e = R.length → n ≤ 1000000000 + j → Ev (fun k => spec_l05Few.l0 k ((n + opens ((R.drop j).map (cl d)) : Nat) : Int) (wrap64 ((i : Int) + 1)) d T) s → Ev (fun k => spec_l05Few.l1 k (n : Int) (i : Int) (j : Int) d T) s
  | 0, j, n, hj, hn, h => by
    rw [List.drop_eq_nil_of_le (by omega), List.map_nil, opens, Nat.add_zero] at h
    apply Ev.succ
    simp only [spec_l05Few.l1, if_pos (show (0 : Int) ≤ (i : Int) by omega), if_pos (show (i : Int) < (T.length : Int) by omega), rdl_nx, hR, if_neg (show ¬ (j : Int) < (R.length : Int) by omega)]
    exact h
  | e + 1, j, n, hj, hn, h => by
    have hj' : j < R.length := by omega
    have hg : R.getD j 0 = R[j] := by rw [List.getD_eq_getElem?_getD, List.getElem?_eq_getElem hj']; rfl
    have hx := hb R[j] (List.getElem_mem hj')
    rw [List.drop_eq_getElem_cons hj', List.map_cons, opens] at h
    apply Ev.succ
    simp only [spec_l05Few.l1, if_pos (show (0 : Int) ≤ (i : Int) by omega), if_pos (show (i : Int) < (T.length : Int) by omega), rdl_nx, hR, if_pos (show (j : Int) < (R.length : Int) by omega), if_pos (show (0 : Int) ≤ (j : Int) by omega), if_neg (show ¬ d = 0 by omega), rd_nx, hg]
    rw [w64 (x := (j : Int) + 1) (by omega) (by omega), show (j : Int) + 1 = ((j + 1 : Nat) : Int) by omega]
    by_cases c : Int.tmod R[j] d = 0
    · simp only [if_pos c]
      rw [if_neg (show ¬ (cl d R[j]).2 = true from fun h => (cl_open hd hx).1 h c), Nat.zero_add] at h
      exact few_l1 hd T i hi R hR hb hl e (j + 1) n (by omega) (by omega) h
    · simp only [if_neg c]
      rw [w64 (by omega) (by omega), show (n : Int) + 1 = ((n + 1 : Nat) : Int) by omega]
      rw [if_pos ((cl_open hd hx).2 c)] at h
      exact few_l1 hd T i hi R hR hb hl e (j + 1) (n + 1) (by omega) (by omega) (by rw [Nat.add_assoc]; exact h)
theorem opens_le : ∀ l : List (Int × Bool), opens l ≤ l.length
  | [] => Nat.le_refl _
  | c :: r => by
    have := opens_le r
    rw [opens, List.length_cons]; split <;> omega
theorem few_l0 {d : Int} (hd : 1 ≤ d) (T : List (List Int)) (hb : ∀ r ∈ T, ∀ x ∈ r, 0 ≤ x) (hl : ∀ r ∈ T, r.length ≤ 5) (hT : T.length ≤ 5) : ∀ (e i n : Nat), i + e = T.length → n ≤ 5 * i → Ev (fun k => spec_l05Few.l0 k (n : Int) (i : Int) d T) (decide (n + opensR ((T.drop i).map fun r => r.map (cl d)) ≤ 14))
  | 0, i, n, hi, hn => by
    rw [List.drop_eq_nil_of_le (by omega), List.map_nil, opensR, Nat.add_zero]
    apply Ev.succ
    simp only [spec_l05Few.l0, if_neg (show ¬ (i : Int) < (T.length : Int) by omega)]
    exact (Ev.now _).to (by congr 1; exact propext (by omega))
  | e + 1, i, n, hi, hn => by
    have hi' : i < T.length := by omega
    have hg : T.getD i [] = T[i] := by rw [List.getD_eq_getElem?_getD, List.getElem?_eq_getElem hi']; rfl
    have hmem : T[i] ∈ T := List.getElem_mem hi'
    have lB := hl _ hmem
    have ho := opens_le ((T[i]).map (cl d))
    rw [List.length_map] at ho
    have ih := few_l0 hd T hb hl hT e (i + 1) (n + opens ((T[i]).map (cl d))) (by omega) (by omega)
    rw [List.drop_eq_getElem_cons hi', List.map_cons, opensR, ← Nat.add_assoc]
    apply Ev.succ
    simp only [spec_l05Few.l0, if_pos (show (i : Int) < (T.length : Int) by omega)]
    refine few_l1 hd T i hi' T[i] hg (hb _ hmem) (by omega) (T[i]).length 0 n (by omega) (by omega) ?_
    rw [List.drop_zero, w64 (by omega) (by omega), show (i : Int) + 1 = ((i + 1 : Nat) : Int) by omega]
    exact ih
theorem few_ev {d : Int} (hd : 1 ≤ d) (T : List (List Int)) (hb : ∀ r ∈ T, ∀ x ∈ r, 0 ≤ x) (hl : ∀ r ∈ T, r.length ≤ 5) (hT : T.length ≤ 5) : Ev (fun k => spec_l05Few.f k d T) (decide (opensR (T.map fun r => r.map (cl d)) ≤ 14)) := by
  have h := few_l0 hd T hb hl hT T.length 0 0 (by omega) (by omega)
  rw [List.drop_zero, Nat.zero_add] at h
  unfold spec_l05Few.f
  exact h
theorem asgR_getlen : ∀ (C : List (List (Int × Bool))) (n i : Nat), ((asgR C n).getD i []).length = (C.getD i []).length
  | [], _, i => by simp [asgR]
  | r :: rs, n, 0 => by rw [asgR]; exact asg_len _ _
  | r :: rs, n, i + 1 => by rw [asgR]; exact asgR_getlen rs n i
theorem asg_mem : ∀ (C : List (Int × Bool)) (n : Nat), ∀ x ∈ asg C n, ∃ c ∈ C, c.1 ≤ x ∧ x ≤ c.1 + 1
  | [], _, x, h => by cases h
  | c :: r, n, x, h => by
    rw [asg] at h
    rcases List.mem_cons.1 h with rfl | h
    · refine ⟨c, List.mem_cons_self, ?_⟩
      have := Nat.mod_lt (n / 2 ^ opens r) (show 0 < 2 by omega)
      split <;> omega
    · obtain ⟨c', h1, h2⟩ := asg_mem r n x h
      exact ⟨c', List.mem_cons_of_mem _ h1, h2⟩
theorem asgR_mem : ∀ (C : List (List (Int × Bool))) (n : Nat), ∀ r ∈ asgR C n, ∃ R ∈ C, ∃ m, r = asg R m
  | [], _, r, h => by cases h
  | c :: rs, n, r, h => by
    rw [asgR] at h
    rcases List.mem_cons.1 h with rfl | h
    · exact ⟨c, List.mem_cons_self, _, rfl⟩
    · obtain ⟨R, h1, h2⟩ := asgR_mem rs n r h
      exact ⟨R, List.mem_cons_of_mem _ h1, h2⟩
def CLS (d : Int) (T : List (List Int)) : List (List (Int × Bool)) := T.map fun r => r.map (cl d)
theorem flo_asg (d : Int) (T : List (List Int)) : asgR (CLS d T) 0 = FLO d T := by
  rw [asgR_zero]
  unfold CLS FLO
  rw [List.map_map]
  refine List.map_congr_left (fun r _ => ?_)
  rw [Function.comp_apply, List.map_map]
  rfl
theorem vt_rows {d : Int} {T : List (List Int)} (hV : VT d T = true) : (1 ≤ d ∧ d ≤ 1000) ∧ (∀ r ∈ T, r.length ≤ 5 ∧ ∀ x ∈ r, 0 ≤ x ∧ x ≤ 100000) := by
  obtain ⟨f1, f2, f3, f4⟩ := vt_facts hV
  have g : ∀ i, i < T.length → ∀ x ∈ T.getD i [], 0 ≤ x ∧ x ≤ 100000 := by
    simp only [VT, rowOk, Bool.and_eq_true, List.all_eq_true, decide_eq_true_iff] at hV
    obtain ⟨_, _, _, h4⟩ := hV
    exact fun i hi => (h4 (T.getD i []) (getD_mem hi)).2
  refine ⟨by simp only [VT, Bool.and_eq_true, decide_eq_true_iff] at hV; exact hV.1, fun r h => ?_⟩
  obtain ⟨i, hi, rfl⟩ := List.getElem_of_mem h
  have e : T.getD i [] = T[i] := by rw [List.getD_eq_getElem?_getD, List.getElem?_eq_getElem hi]; rfl
  have h4 := f4 i hi
  have h2 := g i hi
  rw [e] at h4 h2
  exact ⟨by omega, h2⟩
theorem cls_facts {d : Int} {T : List (List Int)} (hV : VT d T = true) (n : Nat) (hn : n < 2 ^ opensR (CLS d T)) : Ev (fun k => spec_l05Rounds.f k d T (asgR (CLS d T) n)) (TR d T (asgR (CLS d T) n)) ∧ Ev (fun k => spec_l05Next.f k d T (asgR (CLS d T) n)) (decide (n + 1 < 2 ^ opensR (CLS d T)), asgR (CLS d T) (n + 1)) ∧ (asgR (CLS d T) n).length = T.length ∧ (∀ i, ((asgR (CLS d T) n).getD i []).length = (T.getD i []).length) ∧ ∀ r ∈ asgR (CLS d T) n, r.length ≤ 5 ∧ ∀ x ∈ r, 0 ≤ x ∧ x ≤ 100001 := by
  obtain ⟨hn1, hn5, hm5, hm⟩ := vt_facts hV
  obtain ⟨hd, wB⟩ := vt_rows hV
  have lB : (asgR (CLS d T) n).length = T.length := by rw [asgR_len]; unfold CLS; rw [List.length_map]
  have gB : ∀ i, ((asgR (CLS d T) n).getD i []).length = (T.getD i []).length := fun i => by
    rw [asgR_getlen]
    unfold CLS
    rw [List.getD_eq_getElem?_getD, List.getElem?_map, List.getD_eq_getElem?_getD]
    cases T[i]? <;> simp
  have mB : ∀ r ∈ asgR (CLS d T) n, r.length ≤ 5 ∧ ∀ x ∈ r, 0 ≤ x ∧ x ≤ 100001 := fun r hr => by
    obtain ⟨R, hR, m, rfl⟩ := asgR_mem _ _ _ hr
    unfold CLS at hR
    obtain ⟨t, ht, rfl⟩ := List.mem_map.1 hR
    refine ⟨by rw [asg_len, List.length_map]; exact (wB t ht).1, fun x hx => ?_⟩
    obtain ⟨c, hc, h1, h2⟩ := asg_mem _ _ _ hx
    obtain ⟨y, hy, rfl⟩ := List.mem_map.1 hc
    have hb := (wB t ht).2 y hy
    have h3 : 0 ≤ y / d := Int.ediv_nonneg hb.1 (by omega)
    have h4 : y / d ≤ y := Int.ediv_le_self d hb.1
    have h5 : (cl d y).1 = y / d := rfl
    omega
  have hR := rounds_ev d T (asgR (CLS d T) n) hd hn1 hn5 hm5 hm (fun i hi => (wB _ (getD_mem hi)).2) (by rw [lB]; omega) (fun r hr => by have := (mB r hr).1; omega) (fun r hr => by have := (wB r hr).1; omega)
  have hN := next_ev hd T (fun r hr x hx => by have := (wB r hr).2 x hx; omega) (fun r hr => by have := (wB r hr).1; omega) (by omega) (asgR (CLS d T) n) lB (fun i _ => gB i) (fun r hr x hx => by have := (mB r hr).2 x hx; omega)
  rw [show (T.map fun r => r.map (cl d)) = CLS d T from rfl, nxR_asgR, Nat.mod_eq_of_lt hn] at hN
  exact ⟨hR, hN, lB, gB, mB⟩


theorem max_eq (a b : Int) : spec_l00Max.f a b = some (max a b) := by
  unfold spec_l00Max.f
  by_cases h : a > b
  · rw [if_pos h, Int.max_eq_left (by omega)]
  · rw [if_neg h, Int.max_eq_right (by omega)]


theorem serr_l1 {d : Int} (hd : 1 ≤ d ∧ d ≤ 1000) (T X : List (List Int)) (i : Nat) (x t : List Int) (hi : i < X.length) (hT : i < T.length) (hx : X.getD i [] = x) (ht : T.getD i [] = t) (hl : x.length = t.length) (hl5 : x.length ≤ 5) (hb : ∀ y ∈ x, 0 ≤ y ∧ y ≤ 100001) (hc : ∀ y ∈ t, 0 ≤ y ∧ y ≤ 100000) {z : Int} : ∀ (e j : Nat) (a : Int), j + e = x.length → 0 ≤ a → a ≤ 1000000000000 + 200000000 * (j : Int) → Ev (fun k => spec_l05Error.l0 k X (a + errR d (x.drop j) (t.drop j)) (wrap64 ((i : Int) + 1)) d T) z → Ev (fun k => spec_l05Error.l1 k X a (i : Int) (j : Int) d T) z
  | 0, j, a, hj, h0, h1, h => by
    rw [List.drop_eq_nil_of_le (by omega), show errR d [] (t.drop j) = 0 from by simp [errR], Int.add_zero] at h
    apply Ev.succ
    simp only [spec_l05Error.l1, if_pos (show (0 : Int) ≤ (i : Int) by omega), if_pos (show (i : Int) < (X.length : Int) by omega), rdl_nx, hx, if_neg (show ¬ (j : Int) < (x.length : Int) by omega)]
    exact h
  | e + 1, j, a, hj, h0, h1, h => by
    have hj' : j < x.length := by omega
    have hjt : j < t.length := by omega
    have e1 : rd x (j : Int) = x[j] := by rw [rd_nx, List.getD_eq_getElem?_getD, List.getElem?_eq_getElem hj']; rfl
    have e2 : rd t (j : Int) = t[j] := by rw [rd_nx, List.getD_eq_getElem?_getD, List.getElem?_eq_getElem hjt]; rfl
    have p1 := prod_rng hd (hb x[j] (List.getElem_mem hj'))
    have p2 := hc t[j] (List.getElem_mem hjt)
    have p3 := ab_rng (e := d * x[j] - t[j]) (m := 200000000) (by omega) (by omega)
    rw [List.drop_eq_getElem_cons hj', List.drop_eq_getElem_cons hjt, errR] at h
    apply Ev.succ
    simp only [spec_l05Error.l1, if_pos (show (0 : Int) ≤ (i : Int) by omega), if_pos (show (i : Int) < (X.length : Int) by omega), rdl_nx, hx, ht, if_pos (show (j : Int) < (x.length : Int) by omega), if_pos (show (0 : Int) ≤ (j : Int) by omega), if_pos (show (i : Int) < (T.length : Int) by omega), if_pos (show (j : Int) < (t.length : Int) by omega), e1, e2, max_eq, Option.bind_some]
    rw [w64 (x := d * x[j]) (by omega) (by omega), w64 (x := d * x[j] - t[j]) (by omega) (by omega), w64 (x := -(d * x[j] - t[j])) (by omega) (by omega), ab_max, w64 (x := a + ab (d * x[j] - t[j])) (by omega) (by omega), w64 (x := (j : Int) + 1) (by omega) (by omega), show (j : Int) + 1 = ((j + 1 : Nat) : Int) by omega]
    refine serr_l1 hd T X i x t hi hT hx ht hl hl5 hb hc e (j + 1) _ (by omega) (by omega) (by omega) ?_
    rw [Int.add_assoc]
    exact h
theorem serr_l0 {d : Int} (hd : 1 ≤ d ∧ d ≤ 1000) (T X : List (List Int)) (hl : X.length = T.length) (hT : T.length ≤ 5) (hr : ∀ i, (X.getD i []).length = (T.getD i []).length) (hb : ∀ r ∈ X, r.length ≤ 5 ∧ ∀ y ∈ r, 0 ≤ y ∧ y ≤ 100001) (hc : ∀ r ∈ T, ∀ y ∈ r, 0 ≤ y ∧ y ≤ 100000) : ∀ (e i : Nat) (a : Int), i + e = X.length → 0 ≤ a → a ≤ 1000000000 * (i : Int) → Ev (fun k => spec_l05Error.l0 k X a (i : Int) d T) (a + errT d (X.drop i) (T.drop i))
  | 0, i, a, hi, h0, h1 => by
    rw [List.drop_eq_nil_of_le (by omega), show errT d [] (T.drop i) = 0 from by simp [errT], Int.add_zero]
    apply Ev.succ
    simp only [spec_l05Error.l0, if_neg (show ¬ (i : Int) < (X.length : Int) by omega)]
    exact Ev.now _
  | e + 1, i, a, hi, h0, h1 => by
    have hi' : i < X.length := by omega
    have hit : i < T.length := by omega
    have e1 : X.getD i [] = X[i] := by rw [List.getD_eq_getElem?_getD, List.getElem?_eq_getElem hi']; rfl
    have e2 : T.getD i [] = T[i] := by rw [List.getD_eq_getElem?_getD, List.getElem?_eq_getElem hit]; rfl
    have hri := hr i
    rw [e1, e2] at hri
    have q1 := hb _ (List.getElem_mem hi')
    have q2 := hc _ (List.getElem_mem hit)
    have q3 := errR_rng hd X[i] T[i] q1.2 q2
    rw [List.drop_eq_getElem_cons hi', List.drop_eq_getElem_cons hit, errT, ← Int.add_assoc]
    apply Ev.succ
    simp only [spec_l05Error.l0, if_pos (show (i : Int) < (X.length : Int) by omega)]
    refine serr_l1 hd T X i X[i] T[i] hi' hit e1 e2 hri q1.1 q1.2 q2 (X[i]).length 0 a (by omega) h0 (by omega) ?_
    rw [List.drop_zero, List.drop_zero, w64 (by omega) (by omega), show (i : Int) + 1 = ((i + 1 : Nat) : Int) by omega]
    exact serr_l0 hd T X hl hT hr hb hc e (i + 1) _ (by omega) (by omega) (by omega)
theorem serr_ev {d : Int} (hd : 1 ≤ d ∧ d ≤ 1000) (T X : List (List Int)) (hl : X.length = T.length) (hT : T.length ≤ 5) (hr : ∀ i, (X.getD i []).length = (T.getD i []).length) (hb : ∀ r ∈ X, r.length ≤ 5 ∧ ∀ y ∈ r, 0 ≤ y ∧ y ≤ 100001) (hc : ∀ r ∈ T, ∀ y ∈ r, 0 ≤ y ∧ y ≤ 100000) : Ev (fun k => spec_l05Error.f k d T X) (errT d X T) := by
  have h := serr_l0 hd T X hl hT hr hb hc X.length 0 0 (by omega) (by omega) (by omega)
  rw [List.drop_zero, List.drop_zero, Int.zero_add] at h
  unfold spec_l05Error.f
  exact h


theorem own_eq (l : List Int) (h : l.length ≤ 1048576) : spec_l00Own.f l = some l := by
  unfold spec_l00Own.f
  simp only [Option.bind_some, List.length_nil, List.nil_append]
  rw [if_pos (by omega)]


theorem copy_l0 (l : List (List Int)) (hl : l.length ≤ 1048576) (hr : ∀ r ∈ l, r.length ≤ 1048576) : ∀ (e i : Nat), i + e = l.length → Ev (fun k => spec_l05Copy.l0 k l (l.take i) (i : Int)) l
  | 0, i, hi => by
    apply Ev.succ
    simp only [spec_l05Copy.l0, if_neg (show ¬ (i : Int) < (l.length : Int) by omega)]
    exact (Ev.now _).to (List.take_of_length_le (by omega))
  | e + 1, i, hi => by
    have hi' : i < l.length := by omega
    have e1 : l.getD i [] = l[i] := by rw [List.getD_eq_getElem?_getD, List.getElem?_eq_getElem hi']; rfl
    apply Ev.succ
    simp only [spec_l05Copy.l0, if_pos (show (i : Int) < (l.length : Int) by omega), if_pos (show (0 : Int) ≤ (i : Int) by omega), rdl_nx, e1, own_eq l[i] (hr _ (List.getElem_mem hi')), Option.bind_some]
    have ht : (l.take i).length < 5864062014805 := by rw [List.length_take]; omega
    simp only [if_pos ht]
    rw [← List.take_succ_eq_append_getElem hi', w64 (by omega) (by omega), show (i : Int) + 1 = ((i + 1 : Nat) : Int) by omega]
    exact copy_l0 l hl hr e (i + 1) (by omega)
theorem copy_ev (l : List (List Int)) (hl : l.length ≤ 1048576) (hr : ∀ r ∈ l, r.length ≤ 1048576) : Ev (fun k => spec_l05Copy.f k l) l := by
  have h := copy_l0 l hl hr l.length 0 (by omega)
  rw [List.take_zero] at h
  unfold spec_l05Copy.f
  exact h


def NEA (d : Int) (T : List (List Int)) (n : Nat) (s : List (List Int) × Int) : List (List Int) × Int := if s.2 < 0 ∨ errT d (asgR (CLS d T) n) T < s.2 then (asgR (CLS d T) n, errT d (asgR (CLS d T) n) T) else s
def NTB (d : Int) (T : List (List Int)) : List (List Int) × Int × Bool := if VT d T = true then (if opensR (CLS d T) ≤ 14 then ((FLD (fun n => TR d T (asgR (CLS d T) n)) (NEA d T) 0 (2 ^ opensR (CLS d T)) ([], -1)).1, (FLD (fun n => TR d T (asgR (CLS d T) n)) (NEA d T) 0 (2 ^ opensR (CLS d T)) ([], -1)).2, true) else ([], 0, false)) else ([], 0, false)
def nOk (s : List (List Int) × Int) : Prop := s.1.length ≤ 5 ∧ (∀ r ∈ s.1, r.length ≤ 5) ∧ -1 ≤ s.2 ∧ s.2 ≤ 100000000000
theorem err_facts {d : Int} {T : List (List Int)} (hV : VT d T = true) (n : Nat) (hn : n < 2 ^ opensR (CLS d T)) : 0 ≤ errT d (asgR (CLS d T) n) T ∧ errT d (asgR (CLS d T) n) T ≤ 100000000000 := by
  obtain ⟨hR, hN, lB, gB, mB⟩ := cls_facts hV n hn
  obtain ⟨hd, wB⟩ := vt_rows hV
  obtain ⟨f1, f2, f3, f4⟩ := vt_facts hV
  have := errT_rng hd (asgR (CLS d T) n) T mB (fun r h => (wB r h).2)
  omega
theorem nea_ok {d : Int} {T : List (List Int)} (hV : VT d T = true) (n : Nat) (hn : n < 2 ^ opensR (CLS d T)) {s : List (List Int) × Int} (h : nOk s) : nOk (NEA d T n s) := by
  obtain ⟨hR, hN, lB, gB, mB⟩ := cls_facts hV n hn
  obtain ⟨f1, f2, f3, f4⟩ := vt_facts hV
  have he := err_facts hV n hn
  unfold NEA
  split
  · exact ⟨by show (asgR (CLS d T) n).length ≤ 5; omega, fun r h => (mB r h).1, by show -1 ≤ errT _ _ _; omega, he.2⟩
  · exact h
theorem fld_ok {d : Int} {T : List (List Int)} (hV : VT d T = true) (p : Nat → Bool) : ∀ (m n : Nat) (s : List (List Int) × Int), n + m ≤ 2 ^ opensR (CLS d T) → nOk s → nOk (FLD p (NEA d T) n m s)
  | 0, n, s, _, h => by rw [FLD]; exact h
  | m + 1, n, s, hm, h => by
    rw [FLD]
    refine fld_ok hV p m (n + 1) _ (by omega) ?_
    split
    · exact nea_ok hV n (by omega) h
    · exact h
theorem nt_l0 {d : Int} {T : List (List Int)} (hV : VT d T = true) : ∀ (e n : Nat) (s : List (List Int) × Int), n + e + 1 = 2 ^ opensR (CLS d T) → nOk s → Ev (fun k => spec_NearestTable.l0 k (asgR (CLS d T) n) s.1 s.2 true d T) ((FLD (fun n => TR d T (asgR (CLS d T) n)) (NEA d T) n (e + 1) s).1, (FLD (fun n => TR d T (asgR (CLS d T) n)) (NEA d T) n (e + 1) s).2, true) := by
  obtain ⟨hd, wB⟩ := vt_rows hV
  obtain ⟨f1, f2, f3, f4⟩ := vt_facts hV
  have step : ∀ n (s : List (List Int) × Int), n < 2 ^ opensR (CLS d T) → nOk s → ∀ {z : List (List Int) × Int × Bool}, Ev (fun k => spec_NearestTable.l0 k (asgR (CLS d T) (n + 1)) (if TR d T (asgR (CLS d T) n) = true then NEA d T n s else s).1 (if TR d T (asgR (CLS d T) n) = true then NEA d T n s else s).2 (decide (n + 1 < 2 ^ opensR (CLS d T))) d T) z → Ev (fun k => spec_NearestTable.l0 k (asgR (CLS d T) n) s.1 s.2 true d T) z := by
    intro n s hn hs z h
    obtain ⟨hR, hN, lB, gB, mB⟩ := cls_facts hV n hn
    have hE := serr_ev hd T (asgR (CLS d T) n) lB f2 gB mB (fun r h => (wB r h).2)
    have hC := copy_ev (asgR (CLS d T) n) (by omega) (fun r h => by have := (mB r h).1; omega)
    have no : (¬ (TR d T (asgR (CLS d T) n) = true ∧ (s.2 < 0 ∨ errT d (asgR (CLS d T) n) T < s.2))) → Ev (fun k => spec_NearestTable.j2 k (asgR (CLS d T) n) s.1 s.2 (errT d (asgR (CLS d T) n) T) false d T) z := by
      intro hno
      have e : (if TR d T (asgR (CLS d T) n) = true then NEA d T n s else s) = s := by
        split
        · next c => unfold NEA; rw [if_neg (fun q => hno ⟨c, q⟩)]
        · rfl
      rw [e] at h
      apply Ev.succ
      simp only [spec_NearestTable.j2, Bool.false_eq_true, if_false]
      exact Ev.bind hN h
    have go : (s.2 < 0 ∨ errT d (asgR (CLS d T) n) T < s.2) → Ev (fun k => spec_NearestTable.j2 k (asgR (CLS d T) n) s.1 s.2 (errT d (asgR (CLS d T) n) T) (TR d T (asgR (CLS d T) n)) d T) z := by
      intro hy
      by_cases c : TR d T (asgR (CLS d T) n) = true
      · rw [if_pos c] at h
        rw [c]
        unfold NEA at h
        rw [if_pos hy] at h
        apply Ev.succ
        simp only [spec_NearestTable.j2, if_true]
        exact Ev.bind hC (Ev.bind hN h)
      · rw [Bool.eq_false_iff.2 c]
        exact no (fun q => c q.1)
    apply Ev.succ
    simp only [spec_NearestTable.l0, if_true]
    refine Ev.bind hE ?_
    by_cases c1 : s.2 < 0
    · simp only [if_pos c1]
      exact Ev.bind hR (go (.inl c1))
    · simp only [if_neg c1]
      by_cases c2 : errT d (asgR (CLS d T) n) T < s.2
      · simp only [if_pos c2]
        exact Ev.bind hR (go (.inr c2))
      · simp only [if_neg c2]
        exact no (fun q => q.2.elim c1 c2)
  intro e
  induction e with
  | zero =>
    intro n s he hs
    refine step n s (by omega) hs ?_
    rw [decide_eq_false (show ¬ n + 1 < 2 ^ opensR (CLS d T) by omega)]
    apply Ev.succ
    simp only [spec_NearestTable.l0, Bool.false_eq_true, if_false]
    exact (Ev.now _).to (by rw [FLD, FLD])
  | succ e ih =>
    intro n s he hs
    refine step n s (by omega) hs ?_
    rw [decide_eq_true (show n + 1 < 2 ^ opensR (CLS d T) by omega)]
    refine (ih (n + 1) _ (by omega) ?_).to (by rw [FLD_succ _ _ n (e + 1) s])
    split
    · exact nea_ok hV n (by omega) hs
    · exact hs
theorem nt_spec (d : Int) (T : List (List Int)) (hl : T.length ≤ 1048576) (hr : ∀ r ∈ T, r.length ≤ 1048576) : Ev (fun k => spec_NearestTable.f k d T) (NTB d T) := by
  unfold spec_NearestTable.f NTB
  refine Ev.bind (l05Is_ev d T hl hr) ?_
  cases hV : VT d T with
  | false =>
    simp only [Bool.false_eq_true, if_false]
    apply Ev.succ
    simp only [spec_NearestTable.j0, if_true]
    exact Ev.now _
  | true =>
    obtain ⟨f1, f2, f3, f4⟩ := vt_facts hV
    obtain ⟨g1, g2⟩ := vt_rows hV
    simp only [if_true]
    refine Ev.bind (few_ev g1.1 T (fun r h x hx => ((g2 r h).2 x hx).1) (fun r h => (g2 r h).1) f2) ?_
    apply Ev.succ
    by_cases c : opensR (CLS d T) ≤ 14
    · rw [show (T.map fun r => r.map (cl d)) = CLS d T from rfl]
      simp only [spec_NearestTable.j0, decide_eq_true c, Bool.not_true, Bool.false_eq_true, if_false, if_pos c]
      refine Ev.bind (bounds_ev d T g1 f2 g2) ?_
      have hpos := Nat.two_pow_pos (opensR (CLS d T))
      have h := nt_l0 hV (2 ^ opensR (CLS d T) - 1) 0 ([], -1) (by omega) ⟨by simp, by simp, by omega, by omega⟩
      rw [flo_asg] at h
      refine h.to ?_
      rw [show 2 ^ opensR (CLS d T) - 1 + 1 = 2 ^ opensR (CLS d T) by omega]
    · rw [show (T.map fun r => r.map (cl d)) = CLS d T from rfl]
      simp only [spec_NearestTable.j0, decide_eq_false c, Bool.not_false, if_true, if_neg c]
      exact Ev.now _


theorem within_eq (a b c : Int) : impl_within.f a b c = some (decide (b ≤ a ∧ a ≤ c)) := by
  unfold impl_within.f
  by_cases h : b ≤ a
  · rw [if_pos h]; simp [h]
  · rw [if_neg h]; simp [h]


theorem aw_l0 (l : List Int) (a b : Int) (hl : l.length ≤ 9223372036854775806) : ∀ (d i : Nat), d + i = l.length → ∃ r : Int, Ev (fun k => slices_IndexFunc_int64_int64_impl_areWithin_1.l0 k l (l.length : Int) i a b) r ∧ (decide (r ≥ 0) = !(l.drop i).all fun n => decide (a ≤ n ∧ n ≤ b)) := by
  intro d
  induction d with
  | zero =>
    intro i hd
    refine ⟨-1, ?_, ?_⟩
    · apply Ev.succ
      simp only [slices_IndexFunc_int64_int64_impl_areWithin_1.l0, if_neg (show ¬ (i : Int) < (l.length : Int) by omega)]
      exact Ev.now _
    · rw [List.drop_of_length_le (by omega)]; rfl
  | succ d ih =>
    intro i hd
    have hi : i < l.length := by omega
    obtain ⟨r, hr, he⟩ := ih (i + 1) (by omega)
    by_cases h : a ≤ l[i] ∧ l[i] ≤ b
    · refine ⟨r, ?_, ?_⟩
      · apply Ev.succ
        simp only [slices_IndexFunc_int64_int64_impl_areWithin_1.l0, if_pos (show (i : Int) < (l.length : Int) by omega), if_pos (show 0 ≤ (i : Int) by omega), rd_get hi, impl_areWithin_1.f, within_eq, decide_eq_true h, Option.bind_some, w64 (show (-9223372036854775808) ≤ (i : Int) + 1 by omega) (by omega)]
        simpa using hr
      · rw [he, List.drop_eq_getElem_cons hi, List.all_cons, decide_eq_true h, Bool.true_and]
    · refine ⟨i, ?_, ?_⟩
      · apply Ev.succ
        simp only [slices_IndexFunc_int64_int64_impl_areWithin_1.l0, if_pos (show (i : Int) < (l.length : Int) by omega), if_pos (show 0 ≤ (i : Int) by omega), rd_get hi, impl_areWithin_1.f, within_eq, decide_eq_false h, Option.bind_some]
        simpa using Ev.now _
      · rw [List.drop_eq_getElem_cons hi, List.all_cons, decide_eq_false h, Bool.false_and]; simp
theorem areWithin_ev (l : List Int) (a b : Int) (hl : l.length ≤ 9223372036854775806) : Ev (fun k => impl_areWithin.f k l a b) (l.all fun n => decide (a ≤ n ∧ n ≤ b)) := by
  obtain ⟨r, hr, he⟩ := aw_l0 l a b hl l.length 0 (by omega)
  unfold impl_areWithin.f
  simp only [slices_ContainsFunc_int64_int64_impl_areWithin_1.f, slices_IndexFunc_int64_int64_impl_areWithin_1.f]
  refine Ev.bind (Ev.bind hr (Ev.now _)) ?_
  refine (Ev.now _).to ?_
  rw [he, List.drop_zero, Bool.not_not]


def irowOk (n : Nat) (r : List Int) : Bool := decide (r.length = n) && r.all fun x => decide (0 ≤ x ∧ x ≤ 100000)
def iVT (d : Int) (l : List (List Int)) : Bool := decide (1 ≤ d ∧ d ≤ 1000) && (decide (1 ≤ (l.length : Int) ∧ (l.length : Int) ≤ 5) && (decide (1 ≤ ((l.headD []).length : Int) ∧ ((l.headD []).length : Int) ≤ 5) && l.all (irowOk (l.headD []).length)))
theorem rdl_get5 {xs : List (List Int)} {i : Nat} (h : i < xs.length) : rd_L1 xs (i : Int) = xs[i] := by
  unfold rd_L1; exact getD_get h
theorem rdl_head5 (xs : List (List Int)) : rd_L1 xs 0 = xs.headD [] := by
  unfold rd_L1; cases xs <;> rfl
theorem vt1_ev (r : List Int) (d : Int) (l : List (List Int)) (hp : 0 < l.length) (hr : r.length ≤ 1048576) : Ev (fun k => impl_ValidTable_1.f k r d l) (!irowOk (l.headD []).length r) := by
  unfold impl_ValidTable_1.f irowOk
  simp only [if_pos (show 0 < (l.length : Int) by omega), rdl_head5]
  by_cases e : r.length = (l.headD []).length
  · simp only [if_pos (show (r.length : Int) = (l.headD []).length by omega), decide_eq_true e, Bool.true_and]
    exact Ev.bind (areWithin_ev r 0 100000 (by omega)) (Ev.now _)
  · simp only [if_neg (show ¬ (r.length : Int) = (l.headD []).length by omega), decide_eq_false e, Bool.false_and, Bool.not_false]
    exact Ev.now _
theorem iVT_ev (d : Int) (l : List (List Int)) (hl : l.length ≤ 1048576) (hr : ∀ r ∈ l, r.length ≤ 1048576) : Ev (fun k => impl_ValidTable.f k d l) (iVT d l) := by
  unfold impl_ValidTable.f iVT
  simp only [within_eq, impl_size_int64_54.f, impl_size_int64_53.f, Option.bind_some, rdl_head5]
  by_cases h1 : 1 ≤ d ∧ d ≤ 1000
  · by_cases h2 : 1 ≤ (l.length : Int) ∧ (l.length : Int) ≤ 5
    · simp only [decide_eq_true h1, decide_eq_true h2, if_true, if_pos (show 0 < (l.length : Int) by omega), Bool.true_and]
      by_cases h3 : 1 ≤ ((l.headD []).length : Int) ∧ ((l.headD []).length : Int) ≤ 5
      · simp only [decide_eq_true h3, if_true, Bool.true_and]
        obtain ⟨r, hr1, hr2⟩ := find_loop l (fun x => !irowOk (l.headD []).length x) (fun k j => slices_IndexFunc_int64_int64_impl_ValidTable_1.l0 k l (l.length : Int) j d l)
          (by
            apply Ev.succ
            simp only [slices_IndexFunc_int64_int64_impl_ValidTable_1.l0, if_neg (show ¬ (l.length : Int) < l.length by omega)]
            exact Ev.now _)
          (fun i hi hp => by
            apply Ev.succ
            simp only [slices_IndexFunc_int64_int64_impl_ValidTable_1.l0, if_pos (show (i : Int) < (l.length : Int) by omega), if_pos (show 0 ≤ (i : Int) by omega), rdl_get5 hi]
            refine Ev.bind (vt1_ev l[i] d l (by omega) (hr _ (List.getElem_mem hi))) ?_
            simp only [hp, if_true]
            exact Ev.now _)
          (fun i hi hp r hr' => by
            apply Ev.succ
            simp only [slices_IndexFunc_int64_int64_impl_ValidTable_1.l0, if_pos (show (i : Int) < (l.length : Int) by omega), if_pos (show 0 ≤ (i : Int) by omega), rdl_get5 hi]
            refine Ev.bind (vt1_ev l[i] d l (by omega) (hr _ (List.getElem_mem hi))) ?_
            simp only [hp, Bool.false_eq_true, if_false, inc hi (by omega)]
            exact hr')
        simp only [slices_ContainsFunc_int64_int64_impl_ValidTable_1.f, slices_IndexFunc_int64_int64_impl_ValidTable_1.f]
        refine Ev.bind (Ev.bind hr1 (Ev.now _)) ?_
        refine (Ev.now _).to ?_
        rw [hr2, any_not, Bool.not_not]
      · simp only [decide_eq_false h3, Bool.false_eq_true, if_false, Bool.false_and]
        exact Ev.now _
    · simp only [decide_eq_true h1, decide_eq_false h2, if_true, Bool.false_eq_true, if_false, Bool.false_and, Bool.and_false]
      exact Ev.now _
  · simp only [decide_eq_false h1, Bool.false_eq_true, if_false, Bool.false_and]
    exact Ev.now _


theorem isum_l0 (l : List Int) (hl : l.length ≤ 9223372036854775806) : ∀ (d i : Nat) (acc : Int), d + i = l.length → Ev (fun k => impl_sum.l0 k acc l (l.length : Int) i) (wsum acc (l.drop i)) := by
  intro d
  induction d with
  | zero =>
    intro i acc hd
    apply Ev.succ
    simp only [impl_sum.l0, if_neg (show ¬ (i : Int) < (l.length : Int) by omega)]
    rw [List.drop_of_length_le (by omega)]
    exact Ev.now _
  | succ d ih =>
    intro i acc hd
    have hi : i < l.length := by omega
    apply Ev.succ
    simp only [impl_sum.l0, if_pos (show (i : Int) < (l.length : Int) by omega), if_pos (show 0 ≤ (i : Int) by omega), rd_get hi, w64 (show (-9223372036854775808) ≤ (i : Int) + 1 by omega) (by omega)]
    rw [List.drop_eq_getElem_cons hi]
    exact ih (i + 1) _ (by omega)
theorem isum_ev (l : List Int) (hl : l.length ≤ 9223372036854775806) : Ev (fun k => impl_sum.f k l) (wsum 0 l) := by
  have := isum_l0 l hl l.length 0 0 (by omega)
  simpa [impl_sum.f] using this


theorem rdl_getS {xs : List (List Int)} {i : Nat} (h : i < xs.length) : rd_L1 xs (i : Int) = xs[i] := by
  unfold rd_L1; exact getD_get h
theorem sums_l0 (l : List (List Int)) (hl : l.length ≤ 1048576) (hr : ∀ r ∈ l, r.length ≤ 1048576) : ∀ (d i : Nat), d + i = l.length → Ev (fun k => impl_sums.l0 k ((l.take i).map (wsum 0)) l (l.length : Int) i) (l.map (wsum 0)) := by
  intro d
  induction d with
  | zero =>
    intro i hd
    apply Ev.succ
    simp only [impl_sums.l0, if_neg (show ¬ (i : Int) < (l.length : Int) by omega)]
    rw [List.take_of_length_le (by omega)]
    exact Ev.now _
  | succ d ih =>
    intro i hd
    have hi : i < l.length := by omega
    have hm := hr l[i] (List.getElem_mem hi)
    apply Ev.succ
    simp only [impl_sums.l0, if_pos (show (i : Int) < (l.length : Int) by omega), if_pos (show 0 ≤ (i : Int) by omega), rdl_getS hi, inc hi (by omega)]
    refine Ev.bind (isum_ev l[i] (by omega)) ?_
    simp only [if_pos (show ((l.take i).map (wsum 0)).length < 17592186044416 by simp; omega)]
    have := ih (i + 1) (by omega)
    rw [List.take_succ_eq_append_getElem hi, List.map_append] at this
    exact this
theorem sums_ev (l : List (List Int)) (hl : l.length ≤ 1048576) (hr : ∀ r ∈ l, r.length ≤ 1048576) : Ev (fun k => impl_sums.f k l) (l.map (wsum 0)) := by
  have := sums_l0 l hl hr l.length 0 (by omega)
  unfold impl_sums.f
  exact this


theorem ifloor_eq {a b : Int} (hb : 0 < b) (h1 : -9223372036854775807 ≤ a) (h2 : a ≤ 9223372036854775807) : impl_floor.f a b = some (a / b) := by
  have r1 := tdiv_range hb h1 h2 (by omega)
  have hf := floorB (a := a) hb
  have e1 : wrap64 (a.tdiv b) = a.tdiv b := w64 (by omega) (by omega)
  unfold impl_floor.f
  rw [if_neg (by omega), e1]
  by_cases h : a.tmod b < 0
  · rw [if_pos h] at hf
    rw [if_pos h, w64 (by omega) (by omega), hf]
  · rw [if_neg h] at hf
    rw [if_neg h, hf]


theorem iceil_eq {a b : Int} (hb : 0 < b) (h1 : -1000000000000 ≤ a) (h2 : a ≤ 1000000000000) : impl_ceiling.f a b = some (ceilOf a b) := by
  have hr := ceil_range (m := 1000000000000) hb h1 h2 (by omega)
  unfold impl_ceiling.f ceilOf
  rw [w64 (show (-9223372036854775808) ≤ -a by omega) (by omega), ifloor_eq hb (by omega) (by omega), Option.bind_some, w64 (by omega) (by omega)]


theorem around_eq {d n : Int} (T : List (List Int)) (hd : 1 ≤ d ∧ d ≤ 1000) (h1 : -1000000000000 ≤ n) (h2 : n ≤ 1000000000000) : impl_Table_around.f d T n = some (n / d, ceilOf n d) := by
  unfold impl_Table_around.f
  rw [ifloor_eq (by omega) (by omega) (by omega), Option.bind_some, iceil_eq (by omega) h1 h2, Option.bind_some]


def SPN (d n : Int) : S62 := ⟨n / d, ceilOf n d⟩
theorem spans_l0 (d : Int) (T : List (List Int)) (l : List Int) (hd : 1 ≤ d ∧ d ≤ 1000) (hl : l.length ≤ 1048576) (hv : ∀ x ∈ l, 0 ≤ x ∧ x ≤ 10000000) : ∀ (e i : Nat), e + i = l.length → Ev (fun k => impl_Table_spansOf.l0 k ((l.take i).map (SPN d)) l (l.length : Int) i d T) (l.map (SPN d)) := by
  intro e
  induction e with
  | zero =>
    intro i he
    apply Ev.succ
    simp only [impl_Table_spansOf.l0, if_neg (show ¬ (i : Int) < (l.length : Int) by omega)]
    rw [List.take_of_length_le (by omega)]
    exact Ev.now _
  | succ e ih =>
    intro i he
    have hi : i < l.length := by omega
    have hx := hv l[i] (List.getElem_mem hi)
    have := ih (i + 1) (by omega)
    rw [List.take_succ_eq_append_getElem hi, List.map_append] at this
    apply Ev.succ
    simp only [impl_Table_spansOf.l0, if_pos (show (i : Int) < (l.length : Int) by omega), if_pos (show 0 ≤ (i : Int) by omega), rd_get hi, around_eq T hd (show -1000000000000 ≤ l[i] by omega) (by omega), Option.bind_some, if_pos (show ((l.take i).map (SPN d)).length < 8796093022208 by simp; omega), inc hi (by omega)]
    exact this
theorem spans_ev (d : Int) (T : List (List Int)) (l : List Int) (hd : 1 ≤ d ∧ d ≤ 1000) (hl : l.length ≤ 1048576) (hv : ∀ x ∈ l, 0 ≤ x ∧ x ≤ 10000000) : Ev (fun k => impl_Table_spansOf.f k d T l) (l.map (SPN d)) := by
  have := spans_l0 d T l hd hl hv l.length 0 (by omega)
  unfold impl_Table_spansOf.f
  exact this


theorem rdl_getT {xs : List (List Int)} {i : Nat} : rd_L1 xs (i : Int) = xs.getD i [] := by
  unfold rd_L1; simp
theorem rdl_headT (xs : List (List Int)) : rd_L1 xs 0 = xs.headD [] := by
  unfold rd_L1; cases xs <;> rfl
theorem rd_getDT {xs : List Int} {i : Nat} : rd xs (i : Int) = xs.getD i 0 := by
  unfold rd; simp
def tcol (l : List (List Int)) (i k : Nat) : List Int := colOf (l.take i) k
theorem turned_l1 (l : List (List Int)) (m i : Nat) (hl : l.length ≤ 1048576) (hm : m ≤ 1048576) (hi : i < l.length) (hr : (l.getD i []).length = m) {R : List (List Int)} (hs : Ev (fun k => impl_turned.l0 k (stair (tcol l) m (i + 1) 0) l (l.length : Int) ((i : Int) + 1)) R) : ∀ (d j : Nat), d + j = m → Ev (fun k => impl_turned.l1 k (stair (tcol l) m i j) l (l.length : Int) i (l.getD i []) (m : Int) j) R := by
  intro d
  induction d with
  | zero =>
    intro j hd
    apply Ev.succ
    have e : j = m := by omega
    subst e
    simp only [impl_turned.l1, if_neg (show ¬ (j : Int) < (j : Int) by omega), inc hi (by omega), stair_end]
    exact hs
  | succ d ih =>
    intro j hd
    have hj : j < m := by omega
    have lB : (tcol l i j).length ≤ 1048576 := by simp [tcol, colOf]; omega
    apply Ev.succ
    simp only [impl_turned.l1, if_pos (show (j : Int) < (m : Int) by omega), if_pos (show 0 ≤ (j : Int) by omega), if_pos (show (j : Int) < (l.getD i []).length by omega), stair_length, rdl_getT, stair_get (tcol l) m i j j hj, if_neg (show ¬ j < j by omega), if_pos (show (tcol l i j).length < 17592186044416 by omega), inc hj (by omega), Int.toNat_natCast, rd_getDT]
    have e : tcol l i j ++ [(l.getD i []).getD j 0] = tcol l (i + 1) j := (colOf_succ l i j hi).symm
    rw [e, stair_set (tcol l) m i j hj]
    exact ih (j + 1) (by omega)
theorem turned_l0 (l : List (List Int)) (m : Nat) (hl : l.length ≤ 1048576) (hm : m ≤ 1048576) (hr : ∀ i, i < l.length → (l.getD i []).length = m) : ∀ (d i : Nat), d + i = l.length → Ev (fun k => impl_turned.l0 k (stair (tcol l) m i 0) l (l.length : Int) i) ((List.range m).map (colOf l)) := by
  intro d
  induction d with
  | zero =>
    intro i hd
    apply Ev.succ
    simp only [impl_turned.l0, if_neg (show ¬ (i : Int) < (l.length : Int) by omega)]
    refine (Ev.now _).to ?_
    rw [stair_zero]
    refine List.map_congr_left fun k _ => ?_
    rw [tcol, List.take_of_length_le (by omega)]
  | succ d ih =>
    intro i hd
    have hi : i < l.length := by omega
    apply Ev.succ
    simp only [impl_turned.l0, if_pos (show (i : Int) < (l.length : Int) by omega), if_pos (show 0 ≤ (i : Int) by omega), rdl_getT, hr i hi]
    exact turned_l1 l m i hl hm hi (hr i hi) (ih (i + 1) (by omega)) m 0 (by omega)
theorem turned_ev (l : List (List Int)) (hn : 1 ≤ l.length) (hl : l.length ≤ 1048576) (hm : (l.headD []).length ≤ 1048576) (hr : ∀ i, i < l.length → (l.getD i []).length = (l.headD []).length) : Ev (fun k => impl_turned.f k l) ((List.range (l.headD []).length).map (colOf l)) := by
  unfold impl_turned.f
  simp only [if_pos (show 0 < (l.length : Int) by omega), rdl_headT, if_pos (show 0 ≤ ((l.headD []).length : Int) by omega), Int.toNat_natCast, if_pos (show (l.headD []).length ≤ 11728124029610 by omega)]
  have := turned_l0 l (l.headD []).length hl hm hr l.length 0 (by omega)
  rw [stair_zero] at this
  have e : (List.range (l.headD []).length).map (tcol l 0) = List.replicate (l.headD []).length [] := by
    apply List.ext_getElem
    · simp
    · intro k h1 h2
      simp [tcol, colOf]
  rw [e] at this
  exact this


theorem rdl_getL {xs : List (List Int)} {i : Nat} (h : i < xs.length) : rd_L1 xs (i : Int) = xs[i] := by
  unfold rd_L1; exact getD_get h
theorem limits_l0 (d : Int) (T : List (List Int)) (R C : List S62) (a b : Int) (hd : 1 ≤ d ∧ d ≤ 1000) (hn : T.length ≤ 5) (hr : ∀ r ∈ T, r.length ≤ 1048576 ∧ ∀ x ∈ r, 0 ≤ x ∧ x ≤ 100000) : ∀ (e i : Nat), e + i = T.length → Ev (fun k => impl_Table_limits.l0 k T (T.length : Int) i d T ((T.take i).map fun r => r.map (SPN d)) R C a b) (T.map fun r => r.map (SPN d), R, C, a, b) := by
  intro e
  induction e with
  | zero =>
    intro i he
    apply Ev.succ
    simp only [impl_Table_limits.l0, if_neg (show ¬ (i : Int) < (T.length : Int) by omega)]
    rw [List.take_of_length_le (by omega)]
    exact Ev.now _
  | succ e ih =>
    intro i he
    have hi : i < T.length := by omega
    have hx := hr T[i] (List.getElem_mem hi)
    have := ih (i + 1) (by omega)
    rw [List.take_succ_eq_append_getElem hi, List.map_append] at this
    apply Ev.succ
    simp only [impl_Table_limits.l0, if_pos (show (i : Int) < (T.length : Int) by omega), if_pos (show 0 ≤ (i : Int) by omega), rdl_getL hi]
    refine Ev.bind (spans_ev d T T[i] hd hx.1 (fun x h => by have := hx.2 x h; omega)) ?_
    simp only [if_pos (show ((T.take i).map fun r => r.map (SPN d)).length < 5864062014805 by simp; omega), inc hi (by omega)]
    exact this
def LIM (d : Int) (T : List (List Int)) : List (List S62) × List S62 × List S62 × Int × Int := (T.map fun r => r.map (SPN d), (T.map (wsum 0)).map (SPN d), ((List.range (T.headD []).length).map fun k => wsum 0 (colOf T k)).map (SPN d), wsum 0 (T.map (wsum 0)) / d, ceilOf (wsum 0 (T.map (wsum 0))) d)
theorem limits_ev (d : Int) (T : List (List Int)) (hd : 1 ≤ d ∧ d ≤ 1000) (hn1 : 1 ≤ T.length) (hn : T.length ≤ 5) (hm5 : (T.headD []).length ≤ 5) (hm : ∀ i, i < T.length → (T.getD i []).length = (T.headD []).length) (hv : ∀ i, i < T.length → ∀ x ∈ T.getD i [], 0 ≤ x ∧ x ≤ 100000) (hrT : ∀ r ∈ T, r.length ≤ 1048576) : Ev (fun k => impl_Table_limits.f k d T) (LIM d T) := by
  have hT := rows_bnd T (fun i hi => by rw [hm i hi]; exact hm5) hv
  have hb := wsum_bnd (n := 5) hT (by omega) (by simp; exact hn) (by omega)
  unfold impl_Table_limits.f LIM
  refine Ev.bind (sums_ev T (by omega) hrT) (Ev.bind (spans_ev d T _ hd (by rw [List.length_map]; omega) (fun x hx => by have := hT x hx; omega)) (Ev.bind (turned_ev T hn1 (by omega) (by omega) hm) (Ev.bind (sums_ev _ (by rw [List.length_map, List.length_range]; omega) (fun r hr' => ?_)) ?_)))
  · obtain ⟨k, _, rfl⟩ := List.mem_map.1 hr'
    simp [colOf]; omega
  · rw [List.map_map]
    refine Ev.bind (spans_ev d T _ hd (by rw [List.length_map, List.length_range]; omega) (fun x hx => ?_)) (Ev.bind (isum_ev _ (by rw [List.length_map]; omega)) ?_)
    · obtain ⟨k, hk, rfl⟩ := List.mem_map.1 hx
      have := col_bnd T hn hv k (fun i hi => by rw [hm i hi]; exact List.mem_range.1 hk)
      simp only [Function.comp]
      omega
    · simp only [around_eq T hd (show -1000000000000 ≤ wsum 0 (T.map (wsum 0)) by omega) (by omega), Option.bind_some]
      have := limits_l0 d T ((T.map (wsum 0)).map (SPN d)) (((List.range (T.headD []).length).map (wsum 0 ∘ colOf T)).map (SPN d)) (wsum 0 (T.map (wsum 0)) / d) (ceilOf (wsum 0 (T.map (wsum 0))) d) hd hn (fun r hr' => ?_) T.length 0 (by omega)
      · exact this
      · refine ⟨hrT r hr', ?_⟩
        obtain ⟨i, hi, rfl⟩ := List.getElem_of_mem hr'
        have := hv i hi
        rwa [show T.getD i [] = T[i] by simp [List.getD_eq_getElem?_getD, hi]] at this


theorem has_eq (a b n : Int) : impl_span_has.f a b n = some (decide (a ≤ n ∧ n ≤ b)) := by
  unfold impl_span_has.f
  rw [within_eq, Option.bind_some]


theorem rdl_getH {xs : List (List Int)} {i : Nat} : rd_L1 xs (i : Int) = xs.getD i [] := by
  unfold rd_L1; simp
theorem rd_getH {xs : List Int} {i : Nat} : rd xs (i : Int) = xs.getD i 0 := by
  unfold rd; simp
theorem rdt_map (d : Int) {l : List Int} {i : Nat} (h : i < l.length) : rd_T62 (l.map (SPN d)) (i : Int) = SPN d (l.getD i 0) := by
  unfold rd_T62; simp [List.getD_eq_getElem?_getD, h]
theorem rdl3_map (d : Int) {T : List (List Int)} {i : Nat} (h : i < T.length) : rd_L6 (T.map fun r => r.map (SPN d)) (i : Int) = (T.getD i []).map (SPN d) := by
  unfold rd_L6; simp [List.getD_eq_getElem?_getD, h]
def isIn (s : S62) (n : Int) : Bool := decide (s.f0 ≤ n ∧ n ≤ s.f1)
def hRowG (d : Int) (T X : List (List Int)) (R : List S62) (m i : Nat) : Bool := decide ((X.getD i []).length = m) && (isIn (rd_T62 R (i : Int)) (wsum 0 (X.getD i [])) && (List.range (X.getD i []).length).all fun j => isRound ((X.getD i []).getD j 0) ((T.getD i []).getD j 0) d)
def rCG (X : List (List Int)) (C : List S62) (a b : Int) : Bool := (List.range C.length).all (fun k => isIn (rd_T62 C (k : Int)) (wsum 0 (colOf X k))) && decide (a ≤ wsum 0 (X.map (wsum 0)) ∧ wsum 0 (X.map (wsum 0)) ≤ b)
def HOLDS (d : Int) (T X : List (List Int)) (R C : List S62) (a b : Int) : Bool := decide (X.length = R.length) && ((List.range X.length).all (hRowG d T X R C.length) && rCG X C a b)
def CELLS (d : Int) (T : List (List Int)) : List (List S62) := T.map fun r => r.map (SPN d)
theorem holdsG_l2 (d : Int) (T X : List (List Int)) (R C : List S62) (a b : Int) (hX : X.length ≤ 1048576) (hr : ∀ r ∈ X, r.length ≤ 1048576) (hm5 : C.length ≤ 5) : Ev (fun k => impl_limits_holds.l2 k X ((List.range C.length).map fun k => wsum 0 (colOf X k)) (((List.range C.length).map fun k => wsum 0 (colOf X k)).length : Int) 0 (CELLS d T) R C a b) (rCG X C a b) := by
  refine all_step C.length (fun k => isIn (rd_T62 C (k : Int)) (wsum 0 (colOf X k))) (fun k i => impl_limits_holds.l2 k X ((List.range C.length).map fun k => wsum 0 (colOf X k)) (((List.range C.length).map fun k => wsum 0 (colOf X k)).length : Int) i (CELLS d T) R C a b) ?_ ?_
  · apply Ev.succ
    simp only [impl_limits_holds.l2, List.length_map, List.length_range, if_neg (show ¬ (C.length : Int) < C.length by omega)]
    refine Ev.bind (sums_ev X hX hr) (Ev.bind (isum_ev _ (by rw [List.length_map]; omega)) ?_)
    simp only [has_eq, Option.bind_some]
    exact Ev.now _
  · intro i hi s hs
    simp only [List.length_map, List.length_range] at hs
    apply Ev.succ
    simp only [impl_limits_holds.l2, List.length_map, List.length_range, if_pos (show (i : Int) < C.length by omega), if_pos (show 0 ≤ (i : Int) by omega), rd_getH, getD_range _ _ hi, has_eq, Option.bind_some, inc hi (by omega)]
    have e : decide ((rd_T62 C (i : Int)).f0 ≤ wsum 0 (colOf X i) ∧ wsum 0 (colOf X i) ≤ (rd_T62 C (i : Int)).f1) = isIn (rd_T62 C (i : Int)) (wsum 0 (colOf X i)) := rfl
    rw [e]
    cases isIn (rd_T62 C (i : Int)) (wsum 0 (colOf X i)) with
    | true =>
      simp only [if_true, Bool.true_and]
      exact hs
    | false =>
      simp only [Bool.false_eq_true, if_false, Bool.false_and]
      exact Ev.now _
theorem holdsG_l1 (d : Int) (T X : List (List Int)) (R C : List S62) (a b : Int) (i : Nat) (hX : X.length ≤ 1048576) (hi : i < X.length) (hT : X.length = T.length) (hl : (X.getD i []).length = (T.getD i []).length) (hm : (X.getD i []).length ≤ 1048576) {s : Bool} (hs : ((List.range (X.getD i []).length).all fun j => isRound ((X.getD i []).getD j 0) ((T.getD i []).getD j 0) d) = true → Ev (fun k => impl_limits_holds.l0 k X X (X.length : Int) ((i : Int) + 1) (CELLS d T) R C a b) s) : Ev (fun k => impl_limits_holds.l1 k X i X (X.length : Int) i (X.getD i []) ((X.getD i []).length : Int) 0 (CELLS d T) R C a b) (if ((List.range (X.getD i []).length).all fun j => isRound ((X.getD i []).getD j 0) ((T.getD i []).getD j 0) d) then s else false) := by
  have h3 : rd_L6 (CELLS d T) (i : Int) = (T.getD i []).map (SPN d) := rdl3_map d (by omega)
  have h4 : (CELLS d T).length = T.length := by simp [CELLS]
  have e : ∀ j, decide ((T.getD i []).getD j 0 / d ≤ (X.getD i []).getD j 0 ∧ (X.getD i []).getD j 0 ≤ ceilOf ((T.getD i []).getD j 0) d) = isRound ((X.getD i []).getD j 0) ((T.getD i []).getD j 0) d := fun _ => rfl
  refine loopC (X.getD i []).length (fun j => isRound ((X.getD i []).getD j 0) ((T.getD i []).getD j 0) d) (fun k j => impl_limits_holds.l1 k X i X (X.length : Int) i (X.getD i []) ((X.getD i []).length : Int) j (CELLS d T) R C a b) ?_ ?_ ?_
  · intro hall
    apply Ev.succ
    simp only [impl_limits_holds.l1, if_neg (show ¬ ((X.getD i []).length : Int) < (X.getD i []).length by omega), inc hi (by omega)]
    exact hs hall
  · intro j hj hp
    apply Ev.succ
    simp only [impl_limits_holds.l1, if_pos (show (j : Int) < (X.getD i []).length by omega), if_pos (show 0 ≤ (j : Int) by omega), if_pos (show 0 ≤ (i : Int) by omega), h4, if_pos (show (i : Int) < T.length by omega), h3, List.length_map, if_pos (show (j : Int) < (T.getD i []).length by omega), rdt_map d (show j < (T.getD i []).length by omega), SPN, rd_getH, has_eq, Option.bind_some, e, hp, Bool.false_eq_true, if_false]
    exact Ev.now _
  · intro j hj hp q hq
    apply Ev.succ
    simp only [impl_limits_holds.l1, if_pos (show (j : Int) < (X.getD i []).length by omega), if_pos (show 0 ≤ (j : Int) by omega), if_pos (show 0 ≤ (i : Int) by omega), h4, if_pos (show (i : Int) < T.length by omega), h3, List.length_map, if_pos (show (j : Int) < (T.getD i []).length by omega), rdt_map d (show j < (T.getD i []).length by omega), SPN, rd_getH, has_eq, Option.bind_some, e, hp, if_true, inc hj (by omega)]
    exact hq
theorem holdsG_l0 (d : Int) (T X : List (List Int)) (R C : List S62) (a b : Int) (hX : X.length ≤ 1048576) (hr : ∀ r ∈ X, r.length ≤ 1048576) (hn1 : 1 ≤ T.length) (hT : X.length = T.length) (hR : R.length = T.length) (hm5 : C.length ≤ 5) (hm : ∀ i, i < T.length → (T.getD i []).length = C.length) : Ev (fun k => impl_limits_holds.l0 k X X (X.length : Int) 0 (CELLS d T) R C a b) ((List.range X.length).all (hRowG d T X R C.length) && rCG X C a b) := by
  have key := loopC X.length (hRowG d T X R C.length) (fun k i => impl_limits_holds.l0 k X X (X.length : Int) i (CELLS d T) R C a b) (r := rCG X C a b) (bad := false) ?_ ?_ ?_
  · refine key.to ?_
    cases (List.range X.length).all (hRowG d T X R C.length) <;> simp
  · intro hall
    have wB : ∀ i, i < X.length → (X.getD i []).length = C.length := by
      intro i hi
      have := List.all_eq_true.1 hall i (List.mem_range.2 hi)
      simp only [hRowG, Bool.and_eq_true, decide_eq_true_eq] at this
      exact this.1
    have hx0 : (X.headD []).length = C.length := by
      have := wB 0 (by omega)
      rwa [show X.getD 0 [] = X.headD [] by cases X <;> rfl] at this
    have ht := turned_ev X (by omega) hX (by omega) (fun i hi => by rw [hx0]; exact wB i hi)
    rw [hx0] at ht
    apply Ev.succ
    simp only [impl_limits_holds.l0, if_neg (show ¬ (X.length : Int) < X.length by omega)]
    refine Ev.bind ht (Ev.bind (sums_ev _ (by rw [List.length_map, List.length_range]; omega) (fun r hr' => ?_)) ?_)
    · obtain ⟨k, _, rfl⟩ := List.mem_map.1 hr'
      simp [colOf]; omega
    · rw [List.map_map]
      exact holdsG_l2 d T X R C a b hX hr hm5
  · intro i hi hp
    have h5 := hr (X.getD i []) (getD_mem hi)
    apply Ev.succ
    simp only [impl_limits_holds.l0, if_pos (show (i : Int) < X.length by omega), if_pos (show 0 ≤ (i : Int) by omega), rdl_getH]
    by_cases c : (X.getD i []).length = C.length
    · simp only [if_pos (show ((X.getD i []).length : Int) = C.length by omega), if_pos (show (i : Int) < R.length by omega)]
      refine Ev.bind (isum_ev _ (by omega)) ?_
      simp only [has_eq, Option.bind_some]
      have e : decide ((rd_T62 R (i : Int)).f0 ≤ wsum 0 (X.getD i []) ∧ wsum 0 (X.getD i []) ≤ (rd_T62 R (i : Int)).f1) = isIn (rd_T62 R (i : Int)) (wsum 0 (X.getD i [])) := rfl
      rw [e]
      apply Ev.succ
      cases hb : isIn (rd_T62 R (i : Int)) (wsum 0 (X.getD i [])) with
      | false =>
        simp only [impl_limits_holds.j1, Bool.not_false, if_true]
        exact Ev.now _
      | true =>
        simp only [impl_limits_holds.j1, Bool.not_true, Bool.false_eq_true, if_false]
        have hp2 : ((List.range (X.getD i []).length).all fun j => isRound ((X.getD i []).getD j 0) ((T.getD i []).getD j 0) d) = false := by
          simpa only [hRowG, decide_eq_true c, hb, Bool.true_and] using hp
        have := holdsG_l1 d T X R C a b i hX hi hT (by rw [c, hm i (by omega)]) h5 (s := false) (fun h => by rw [hp2] at h; cases h)
        rw [hp2] at this
        exact this
    · simp only [if_neg (show ¬ ((X.getD i []).length : Int) = C.length by omega)]
      apply Ev.succ
      simp only [impl_limits_holds.j1, if_true]
      exact Ev.now _
  · intro i hi hp s hs
    have h5 := hr (X.getD i []) (getD_mem hi)
    simp only [hRowG, Bool.and_eq_true, decide_eq_true_eq] at hp
    obtain ⟨c, hb, hp2⟩ := hp
    have e : decide ((rd_T62 R (i : Int)).f0 ≤ wsum 0 (X.getD i []) ∧ wsum 0 (X.getD i []) ≤ (rd_T62 R (i : Int)).f1) = isIn (rd_T62 R (i : Int)) (wsum 0 (X.getD i [])) := rfl
    apply Ev.succ
    simp only [impl_limits_holds.l0, if_pos (show (i : Int) < X.length by omega), if_pos (show 0 ≤ (i : Int) by omega), rdl_getH, if_pos (show ((X.getD i []).length : Int) = C.length by omega), if_pos (show (i : Int) < R.length by omega)]
    refine Ev.bind (isum_ev _ (by omega)) ?_
    simp only [has_eq, Option.bind_some, e, hb, Bool.not_true]
    apply Ev.succ
    simp only [impl_limits_holds.j1, Bool.false_eq_true, if_false]
    have := holdsG_l1 d T X R C a b i hX hi hT (by rw [c, hm i (by omega)]) h5 (s := s) (fun _ => hs)
    rw [hp2] at this
    exact this
theorem holds_ev (d : Int) (T X : List (List Int)) (R C : List S62) (a b : Int) (hX : X.length ≤ 1048576) (hr : ∀ r ∈ X, r.length ≤ 1048576) (hn1 : 1 ≤ T.length) (hR : R.length = T.length) (hn5 : T.length ≤ 1048576) (hm5 : C.length ≤ 5) (hm : ∀ i, i < T.length → (T.getD i []).length = C.length) : Ev (fun k => impl_limits_holds.f k (CELLS d T) R C a b X) (HOLDS d T X R C a b) := by
  unfold impl_limits_holds.f HOLDS
  by_cases e : X.length = R.length
  · simp only [if_pos (show (X.length : Int) = R.length by omega), decide_eq_true e, Bool.true_and]
    exact holdsG_l0 d T X R C a b hX hr hn1 (by omega) hR hm5 hm
  · simp only [if_neg (show ¬ (X.length : Int) = R.length by omega), decide_eq_false e, Bool.false_and]
    exact Ev.now _



theorem norm0_l0 (l : List Int) (hl : l.length ≤ 1048576) (hb : ∀ e ∈ l, -200000000 ≤ e ∧ e ≤ 200000000) : ∀ (d i : Nat) (a : Int), d + i = l.length → 0 ≤ a → a ≤ 200000000 * (i : Int) → Ev (fun k => impl_normOf.l0 k 0 a l (l.length : Int) i) (a + absS (l.drop i))
  | 0, i, a, hd, h0, h1 => by
    rw [List.drop_eq_nil_of_le (by omega), absS, Int.add_zero]
    apply Ev.succ
    simp only [impl_normOf.l0, if_neg (show ¬ (i : Int) < (l.length : Int) by omega)]
    exact Ev.now _
  | d + 1, i, a, hd, h0, h1 => by
    have hi : i < l.length := by omega
    have hx := hb l[i] (List.getElem_mem hi)
    have p3 := ab_rng hx.1 hx.2
    rw [List.drop_eq_getElem_cons hi, absS, ← Int.add_assoc]
    apply Ev.succ
    simp only [impl_normOf.l0, if_pos (show (i : Int) < (l.length : Int) by omega), if_pos (show 0 ≤ (i : Int) by omega), rd_get hi, if_true]
    rw [w64 (x := -l[i]) (by omega) (by omega), show mx l[i] (-l[i]) = ab l[i] from rfl, w64 (x := a + ab l[i]) (by omega) (by omega), w64 (x := (i : Int) + 1) (by omega) (by omega), show (i : Int) + 1 = ((i + 1 : Nat) : Int) by omega]
    exact norm0_l0 l hl hb d (i + 1) _ (by omega) (by omega) (by omega)
theorem norm0_ev (l : List Int) (hl : l.length ≤ 1048576) (hb : ∀ e ∈ l, -200000000 ≤ e ∧ e ≤ 200000000) : Ev (fun k => impl_normOf.f k l 0) (absS l) := by
  have := norm0_l0 l hl hb l.length 0 0 (by omega) (by omega) (by omega)
  rw [List.drop_zero, Int.zero_add] at this
  unfold impl_normOf.f
  simp only [if_neg (show ¬ (0 : Int) = 2 by omega)]
  exact this


theorem ierr_l0 {d : Int} (hd : 1 ≤ d ∧ d ≤ 1000) (t x : List Int) (hl : x.length = t.length) (hx5 : x.length ≤ 1048576) (hx : ∀ y ∈ x, 0 ≤ y ∧ y ≤ 100001) (ht : ∀ y ∈ t, 0 ≤ y ∧ y ≤ 100000) : ∀ (e i : Nat), i + e = x.length → Ev (fun k => impl_Values_errors.l0 k (errL d (x.take i) (t.take i)) x (x.length : Int) (i : Int) d t) (errL d x t)
  | 0, i, hi => by
    apply Ev.succ
    simp only [impl_Values_errors.l0, if_neg (show ¬ (i : Int) < (x.length : Int) by omega)]
    refine (Ev.now _).to ?_
    rw [List.take_of_length_le (by omega), List.take_of_length_le (by omega)]
  | e + 1, i, hi => by
    have hi' : i < x.length := by omega
    have hit : i < t.length := by omega
    have p1 := prod_rng hd (hx x[i] (List.getElem_mem hi'))
    have p2 := ht t[i] (List.getElem_mem hit)
    have lB : (errL d (x.take i) (t.take i)).length < 17592186044416 := by
      rw [errL_len d _ _ (by rw [List.length_take, List.length_take, hl]), List.length_take]; omega
    apply Ev.succ
    simp only [impl_Values_errors.l0, if_pos (show (i : Int) < (x.length : Int) by omega), if_pos (show (0 : Int) ≤ (i : Int) by omega), if_pos (show (i : Int) < (t.length : Int) by omega), if_pos lB, rd_get hi', rd_get hit]
    rw [w64 (x := d * x[i]) (by omega) (by omega), w64 (x := d * x[i] - t[i]) (by omega) (by omega), ← errL_snoc d _ _ _ _ (by rw [List.length_take, List.length_take, hl]), ← List.take_succ_eq_append_getElem hi', ← List.take_succ_eq_append_getElem hit, w64 (x := (i : Int) + 1) (by omega) (by omega), show (i : Int) + 1 = ((i + 1 : Nat) : Int) by omega]
    exact ierr_l0 hd t x hl hx5 hx ht e (i + 1) (by omega)
theorem ierr_ev {d : Int} (hd : 1 ≤ d ∧ d ≤ 1000) (t x : List Int) (hl : x.length = t.length) (hx5 : x.length ≤ 1048576) (hx : ∀ y ∈ x, 0 ≤ y ∧ y ≤ 100001) (ht : ∀ y ∈ t, 0 ≤ y ∧ y ≤ 100000) : Ev (fun k => impl_Values_errors.f k d t x) (errL d x t) := by
  have h := ierr_l0 hd t x hl hx5 hx ht x.length 0 (by omega)
  rw [List.take_zero, List.take_zero] at h
  unfold impl_Values_errors.f
  exact h


theorem clone_eq (l : List Int) (h : l.length ≤ 1048576) : slices_Clone_int64_int64.f l = some l := by
  unfold slices_Clone_int64_int64.f
  simp only [Option.bind_some, List.length_nil, List.nil_append]
  rw [if_pos (by omega)]


theorem ownr_l0 (l : List (List Int)) (hl : l.length ≤ 1048576) (hr : ∀ r ∈ l, r.length ≤ 1048576) : ∀ (e i : Nat), i + e = l.length → Ev (fun k => impl_ownRows.l0 k (l.take i) l (l.length : Int) (i : Int)) l
  | 0, i, hi => by
    apply Ev.succ
    simp only [impl_ownRows.l0, if_neg (show ¬ (i : Int) < (l.length : Int) by omega)]
    exact (Ev.now _).to (List.take_of_length_le (by omega))
  | e + 1, i, hi => by
    have hi' : i < l.length := by omega
    have e1 : l.getD i [] = l[i] := by rw [List.getD_eq_getElem?_getD, List.getElem?_eq_getElem hi']; rfl
    apply Ev.succ
    simp only [impl_ownRows.l0, if_pos (show (i : Int) < (l.length : Int) by omega), if_pos (show (0 : Int) ≤ (i : Int) by omega), rdl_nx, e1, clone_eq l[i] (hr _ (List.getElem_mem hi')), Option.bind_some]
    have ht : (l.take i).length < 5864062014805 := by rw [List.length_take]; omega
    simp only [if_pos ht]
    rw [← List.take_succ_eq_append_getElem hi', w64 (by omega) (by omega), show (i : Int) + 1 = ((i + 1 : Nat) : Int) by omega]
    exact ownr_l0 l hl hr e (i + 1) (by omega)
theorem ownr_ev (l : List (List Int)) (hl : l.length ≤ 1048576) (hr : ∀ r ∈ l, r.length ≤ 1048576) : Ev (fun k => impl_ownRows.f k l) l := by
  have h := ownr_l0 l hl hr l.length 0 (by omega)
  rw [List.take_zero] at h
  unfold impl_ownRows.f
  exact h


theorem set_mid2 {α : Type} {A : List α} {n : Nat} {x y : α} {B : List α} (h : A.length = n) : (A ++ x :: B).set n y = A ++ y :: B := by subst h; exact set_mid A x y B
def opsC (i : Nat) : Nat → List (Int × Bool) → List S62
  | _, [] => []
  | j, c :: r => if c.2 = true then (⟨(i : Int), (j : Int)⟩ : S62) :: opsC i (j + 1) r else opsC i (j + 1) r
def opsRR : Nat → List (List (Int × Bool)) → List S62
  | _, [] => []
  | i, r :: rs => opsC i 0 r ++ opsRR (i + 1) rs
theorem opsC_len (i : Nat) : ∀ (r : List (Int × Bool)) (j : Nat), (opsC i j r).length = opens r
  | [], _ => rfl
  | c :: r, j => by
    rw [opsC, opens]
    by_cases h : c.2 = true
    · rw [if_pos h, if_pos h, List.length_cons, opsC_len i r (j + 1)]; omega
    · rw [if_neg h, if_neg h, opsC_len i r (j + 1)]; omega
theorem opsRR_len : ∀ (rs : List (List (Int × Bool))) (i : Nat), (opsRR i rs).length = opensR rs
  | [], _ => rfl
  | r :: rs, i => by rw [opsRR, opensR, List.length_append, opsC_len, opsRR_len rs (i + 1)]
def fit1 : List (Int × Bool) → List Int → Prop
  | [], [] => True
  | c :: r, x :: xs => (¬ c.2 = true → x = c.1) ∧ fit1 r xs
  | _, _ => False
def fitR : List (List (Int × Bool)) → List (List Int) → Prop
  | [], [] => True
  | r :: rs, x :: xs => fit1 r x ∧ fitR rs xs
  | _, _ => False
theorem fit1_asg : ∀ (r : List (Int × Bool)) (n : Nat), fit1 r (asg r n)
  | [], _ => trivial
  | c :: r, n => by
    rw [asg]
    exact ⟨fun h => by rw [if_neg h], fit1_asg r n⟩
theorem fitR_asgR : ∀ (rs : List (List (Int × Bool))) (n : Nat), fitR rs (asgR rs n)
  | [], _ => trivial
  | r :: rs, n => by rw [asgR]; exact ⟨fit1_asg r _, fitR_asgR rs n⟩
theorem fit1_len : ∀ {r : List (Int × Bool)} {x : List Int}, fit1 r x → x.length = r.length
  | [], [], _ => rfl
  | c :: r, x :: xs, h => by rw [List.length_cons, List.length_cons, fit1_len h.2]
  | [], _ :: _, h => h.elim
  | _ :: _, [], h => h.elim
theorem cl_lt {d x : Int} (hd : 1 ≤ d) : (SPN d x).f0 < (SPN d x).f1 ↔ (cl d x).2 = true := by
  have h4 := (ceil_le (a := x) (b := d) (k := ceilOf x d) (by omega)).1 (Int.le_refl _)
  have h6 : x / d * d ≤ x := Int.ediv_mul_le x (by omega)
  have h5 : x / d ≤ ceilOf x d := Int.le_of_mul_le_mul_right (a := d) (by omega) (by omega)
  show x / d < ceilOf x d ↔ decide (x / d ≠ ceilOf x d) = true
  rw [decide_eq_true_eq]
  omega
theorem rdt_each (d : Int) (l : List Int) (j : Nat) (h : j < l.length) : rd_T62 (l.map (SPN d)) (j : Int) = SPN d l[j] := by
  unfold rd_T62
  rw [getD_get (by rw [List.length_map]; exact h), List.getElem_map]
theorem rdl3_each (d : Int) (T : List (List Int)) (i : Nat) (h : i < T.length) : rd_L6 (CELLS d T) (i : Int) = (T[i]).map (SPN d) := by
  unfold rd_L6 CELLS
  rw [getD_get (by rw [List.length_map]; exact h), List.getElem_map]
theorem each_l1 {σ : Type} (st : Nat → List (List Int) → σ → Option σ) {d : Int} (hd : 1 ≤ d ∧ d ≤ 1000) (T : List (List Int)) (i : Nat) (hi : i < T.length) (hT : T.length ≤ 5) (R : List Int) (hR : R.length ≤ 5) (X : List (List Int)) (hX : X.length ≤ 5) (s : σ) (C : List (List S62)) (A D : List S62) (a b : Int) {z : σ × Bool} : ∀ (e j : Nat) (O : List S62), j + e = R.length → O.length ≤ 1000 + j → Ev (fun k => impl_eachTable.l0 st k (O ++ opsC i j ((R.drop j).map (cl d))) (X ++ [R.map fun x => x / d]) (CELLS d T) (T.length : Int) ((i + 1 : Nat) : Int) s C A D a b) z → Ev (fun k => impl_eachTable.l1 st k O X (i : Int) ((R.take j).map fun x => x / d) (CELLS d T) (T.length : Int) (i : Int) (R.map (SPN d)) (R.length : Int) (j : Int) s C A D a b) z
  | 0, j, O, hj, hO, h => by
    rw [List.drop_eq_nil_of_le (by omega), List.map_nil, opsC, List.append_nil] at h
    apply Ev.succ
    simp only [impl_eachTable.l1, if_neg (show ¬ (j : Int) < (R.length : Int) by omega), if_pos (show X.length < 5864062014805 by omega)]
    rw [List.take_of_length_le (by omega), w64 (by omega) (by omega), show (i : Int) + 1 = ((i + 1 : Nat) : Int) by omega]
    exact h
  | e + 1, j, O, hj, hO, h => by
    have hj' : j < R.length := by omega
    rw [List.drop_eq_getElem_cons hj', List.map_cons, opsC] at h
    have ht : (R.take j).map (fun x => x / d) ++ [(SPN d R[j]).f0] = (R.take (j + 1)).map fun x => x / d := by
      rw [List.take_succ_eq_append_getElem hj', List.map_append]; rfl
    have hl : ((R.take j).map fun x => x / d).length ≤ 5 := by rw [List.length_map, List.length_take]; omega
    apply Ev.succ
    simp only [impl_eachTable.l1, if_pos (show (j : Int) < (R.length : Int) by omega), if_pos (show (0 : Int) ≤ (j : Int) by omega), List.length_map, if_pos (show (j : Int) < (R.length : Int) by omega), rdt_each d R j hj', Option.bind_some]
    simp only [if_pos (show (List.take j R).length < 17592186044416 by rw [List.length_take]; omega)]
    rw [ht, w64 (by omega) (by omega), show (j : Int) + 1 = ((j + 1 : Nat) : Int) by omega]
    by_cases c : (cl d R[j]).2 = true
    · rw [if_pos c, show O ++ (⟨(i : Int), (j : Int)⟩ : S62) :: opsC i (j + 1) ((R.drop (j + 1)).map (cl d)) = (O ++ [(⟨(i : Int), (j : Int)⟩ : S62)]) ++ opsC i (j + 1) ((R.drop (j + 1)).map (cl d)) by simp] at h
      simp only [if_pos ((cl_lt (x := R[j]) hd.1).2 c), if_pos (show O.length < 8796093022208 by omega)]
      exact each_l1 st hd T i hi hT R hR X hX s C A D a b e (j + 1) _ (by omega) (by rw [List.length_append, List.length_singleton]; omega) h
    · rw [if_neg c] at h
      simp only [if_neg (show ¬ (SPN d R[j]).f0 < (SPN d R[j]).f1 from fun q => c ((cl_lt (x := R[j]) hd.1).1 q))]
      exact each_l1 st hd T i hi hT R hR X hX s C A D a b e (j + 1) _ (by omega) (by omega) h
theorem each_l0 {σ : Type} (st : Nat → List (List Int) → σ → Option σ) {d : Int} (hd : 1 ≤ d ∧ d ≤ 1000) (T : List (List Int)) (hT : T.length ≤ 5) (hr : ∀ r ∈ T, r.length ≤ 5) (s : σ) (C : List (List S62)) (A D : List S62) (a b : Int) {z : σ × Bool} : ∀ (e i : Nat) (O : List S62), i + e = T.length → O.length ≤ 5 * i → Ev (fun k => if ((O ++ opsRR i (CLS d (T.drop i))).length : Int) > 14 then some (s, false) else impl_eachTable.l2 st k (O ++ opsRR i (CLS d (T.drop i))) (FLO d T) (shl .i64 1 ((O ++ opsRR i (CLS d (T.drop i))).length : Int)) 0 s C A D a b) z → Ev (fun k => impl_eachTable.l0 st k O (FLO d (T.take i)) (CELLS d T) (T.length : Int) (i : Int) s C A D a b) z
  | 0, i, O, hi, hO, h => by
    rw [List.drop_eq_nil_of_le (by omega), show CLS d [] = [] from rfl, opsRR, List.append_nil] at h
    apply Ev.succ
    simp only [impl_eachTable.l0, if_neg (show ¬ (i : Int) < (T.length : Int) by omega)]
    rw [List.take_of_length_le (by omega)]
    exact h
  | e + 1, i, O, hi, hO, h => by
    have hi' : i < T.length := by omega
    have lB := hr _ (List.getElem_mem hi')
    have ho := opens_le ((T[i]).map (cl d))
    rw [List.length_map] at ho
    rw [List.drop_eq_getElem_cons hi', show CLS d (T[i] :: T.drop (i + 1)) = (T[i]).map (cl d) :: CLS d (T.drop (i + 1)) from rfl, opsRR, ← List.append_assoc] at h
    have ih := each_l0 st hd T hT hr s C A D a b e (i + 1) (O ++ opsC i 0 ((T[i]).map (cl d))) (by omega) (by rw [List.length_append, opsC_len]; omega) h
    have hcl : (CELLS d T).length = T.length := by unfold CELLS; rw [List.length_map]
    apply Ev.succ
    simp only [impl_eachTable.l0, if_pos (show (i : Int) < (T.length : Int) by omega), if_pos (show (0 : Int) ≤ (i : Int) by omega), hcl, rdl3_each d T i hi', List.length_map]
    refine each_l1 st hd T i hi' hT T[i] lB (FLO d (T.take i)) (by unfold FLO; rw [List.length_map, List.length_take]; omega) s C A D a b (T[i]).length 0 O (by omega) (by omega) ?_
    rw [List.drop_zero, show FLO d (T.take i) ++ [(T[i]).map fun x => x / d] = FLO d (T.take (i + 1)) by unfold FLO; rw [List.take_succ_eq_append_getElem hi', List.map_append]; rfl]
    exact ih
theorem each_l3c {σ : Type} (st : Nat → List (List Int) → σ → Option σ) {d : Int} (hd : 1 ≤ d ∧ d ≤ 1000) (T : List (List Int)) (hT : T.length ≤ 5) (n F : Nat) (hn : n < 16777216) (OP : List S62) (hOP : OP.length ≤ 14) (i : Nat) (hi : i < T.length) (hR : (T[i]).length ≤ 5) (hv : ∀ x ∈ T[i], 0 ≤ x ∧ x ≤ 100000) (PR XS : List (List Int)) (hPR : PR.length = i) (B : List S62) (q : Nat) (hq : B.length = q) (s : σ) (A D : List S62) (a b : Int) {z : σ × Bool} : ∀ (e j : Nat) (Q : List S62) (PC xs : List Int), j + e = (T[i]).length → PC.length = j → fit1 (((T[i]).drop j).map (cl d)) xs → OP = Q ++ (opsC i j (((T[i]).drop j).map (cl d)) ++ B) →
    Ev (fun k => impl_eachTable.l3 st k OP (PR ++ (PC ++ asg (((T[i]).drop j).map (cl d)) (n / 2 ^ q)) :: XS) (n : Int) (F : Int) (n : Int) OP (OP.length : Int) ((Q.length + opens (((T[i]).drop j).map (cl d)) : Nat) : Int) s (CELLS d T) A D a b) z →
    Ev (fun k => impl_eachTable.l3 st k OP (PR ++ (PC ++ xs) :: XS) (n : Int) (F : Int) (n : Int) OP (OP.length : Int) (Q.length : Int) s (CELLS d T) A D a b) z
  | 0, j, Q, PC, xs, hj, hPC, hf, hO, h => by
    rw [List.drop_eq_nil_of_le (by omega), List.map_nil] at hf h
    have hx : xs = [] := by cases xs with | nil => rfl | cons _ _ => exact hf.elim
    subst hx
    rw [asg, opens, Nat.add_zero] at h
    exact h
  | e + 1, j, Q, PC, xs, hj, hPC, hf, hO, h => by
    have hj' : j < (T[i]).length := by omega
    rw [List.drop_eq_getElem_cons hj', List.map_cons] at hf h hO
    obtain ⟨x, ys, rfl⟩ : ∃ x ys, xs = x :: ys := by cases xs with | nil => exact hf.elim | cons x ys => exact ⟨x, ys, rfl⟩
    have hys := fit1_len hf.2
    rw [List.length_map, List.length_drop] at hys
    rw [asg, opens] at h
    rw [opsC] at hO
    by_cases c : (cl d (T[i])[j]).2 = true
    · rw [if_pos c] at hO
      simp only [if_pos c] at h
      have tB : Q.length < OP.length := by rw [hO]; simp
      have gB : rd_T62 OP (Q.length : Int) = (⟨(i : Int), (j : Int)⟩ : S62) := by
        unfold rd_T62
        rw [getD_get tB]
        simp [hO]
      have wB : (PR ++ (PC ++ x :: ys) :: XS).getD i [] = PC ++ x :: ys := by rw [← hPR]; exact at_mid PR _ [] XS
      have hcl : (CELLS d T).length = T.length := by unfold CELLS; rw [List.length_map]
      have hOl : OP.length - 1 - Q.length = opens (((T[i]).drop (j + 1)).map (cl d)) + q := by
        rw [hO]; simp [opsC_len, hq] <;> omega
      have hle : opens (((T[i]).drop (j + 1)).map (cl d)) + q ≤ 14 := by omega
      have hw : wrap64 (wrap64 ((OP.length : Int) - 1) - (Q.length : Int)) = ((opens (((T[i]).drop (j + 1)).map (cl d)) + q : Nat) : Int) := by
        rw [w64 (x := (OP.length : Int) - 1) (by omega) (by omega), w64 (by omega) (by omega)]; omega
      have hxv := hv _ (List.getElem_mem hj')
      have hfl : 0 ≤ (T[i])[j] / d := Int.ediv_nonneg hxv.1 (by omega)
      have hfu : (T[i])[j] / d ≤ (T[i])[j] := Int.ediv_le_self d hxv.1
      have hdg := digit n q (opens (((T[i]).drop (j + 1)).map (cl d)))
      have hsh : 0 ≤ (n : Int) / 2 ^ (opens (((T[i]).drop (j + 1)).map (cl d)) + q) := Int.ediv_nonneg (by omega) (Int.le_of_lt (Int.pow_pos (by omega)))
      have hsl : (n : Int) / 2 ^ (opens (((T[i]).drop (j + 1)).map (cl d)) + q) ≤ (n : Int) := Int.ediv_le_self _ (by omega)
      have hdb : ((n / 2 ^ q / 2 ^ opens (((T[i]).drop (j + 1)).map (cl d)) % 2 : Nat) : Int) < 2 := by omega
      apply Ev.succ
      simp only [impl_eachTable.l3, if_pos (show (Q.length : Int) < (OP.length : Int) by omega), if_pos (show (0 : Int) ≤ (Q.length : Int) by omega), gB, if_pos (show (0 : Int) ≤ (i : Int) by omega), if_pos (show (0 : Int) ≤ (j : Int) by omega), hcl, if_pos (show (i : Int) < (T.length : Int) by omega), rdl3_each d T i hi, List.length_map, if_pos (show (j : Int) < ((T[i]).length : Int) by omega), hw, rdl_nx, wB, rdt_each d T[i] j hj']
      simp only [if_pos (show (i : Int) < ((PR ++ (PC ++ x :: ys) :: XS).length : Int) by simp [hPR]; omega), if_pos (show (0 : Int) ≤ ((opens (((T[i]).drop (j + 1)).map (cl d)) + q : Nat) : Int) by omega), if_pos (show (j : Int) < ((PC ++ x :: ys).length : Int) by simp [hPC]; omega)]
      rw [shr_n _ _ (by omega), band1 _ hsh (by omega), hdg, w64 (x := (Q.length : Int) + 1) (by omega) (by omega)]
      have hval : wrap64 ((SPN d (T[i])[j]).f0 + ((n / 2 ^ q / 2 ^ opens (((T[i]).drop (j + 1)).map (cl d)) % 2 : Nat) : Int)) = (cl d (T[i])[j]).1 + ((n / 2 ^ q / 2 ^ opens (((T[i]).drop (j + 1)).map (cl d)) % 2 : Nat) : Int) := by
        show wrap64 ((T[i])[j] / d + _) = (T[i])[j] / d + _
        exact w64 (by omega) (by omega)
      rw [hval, Int.toNat_natCast, Int.toNat_natCast]
      rw [show (PC ++ x :: ys).set j ((cl d (T[i])[j]).1 + ((n / 2 ^ q / 2 ^ opens (((T[i]).drop (j + 1)).map (cl d)) % 2 : Nat) : Int)) = (PC ++ [(cl d (T[i])[j]).1 + ((n / 2 ^ q / 2 ^ opens (((T[i]).drop (j + 1)).map (cl d)) % 2 : Nat) : Int)]) ++ ys by rw [set_mid2 hPC]; simp]
      rw [show (PR ++ (PC ++ x :: ys) :: XS).set i ((PC ++ [(cl d (T[i])[j]).1 + ((n / 2 ^ q / 2 ^ opens (((T[i]).drop (j + 1)).map (cl d)) % 2 : Nat) : Int)]) ++ ys) = PR ++ ((PC ++ [(cl d (T[i])[j]).1 + ((n / 2 ^ q / 2 ^ opens (((T[i]).drop (j + 1)).map (cl d)) % 2 : Nat) : Int)]) ++ ys) :: XS from set_mid2 hPR]
      have ih := each_l3c st hd T hT n F hn OP hOP i hi hR hv PR XS hPR B q hq s A D a b e (j + 1) (Q ++ [(⟨(i : Int), (j : Int)⟩ : S62)]) (PC ++ [(cl d (T[i])[j]).1 + ((n / 2 ^ q / 2 ^ opens (((T[i]).drop (j + 1)).map (cl d)) % 2 : Nat) : Int)]) ys (z := z) (by omega) (by simp [hPC]) hf.2 (by rw [hO]; simp) (by
        simp only [List.length_append, List.length_singleton, List.append_assoc, List.singleton_append]
        rw [show Q.length + 1 + opens (((T[i]).drop (j + 1)).map (cl d)) = Q.length + (1 + opens (((T[i]).drop (j + 1)).map (cl d))) by omega]
        exact h)
      simp only [List.length_append, List.length_singleton] at ih
      rw [show (Q.length : Int) + 1 = ((Q.length + 1 : Nat) : Int) by omega]
      exact ih
    · rw [if_neg c] at hO
      simp only [if_neg c, Nat.zero_add] at h
      have hx := hf.1 c
      subst hx
      have ih := each_l3c st hd T hT n F hn OP hOP i hi hR hv PR XS hPR B q hq s A D a b e (j + 1) Q (PC ++ [(cl d (T[i])[j]).1]) ys (z := z) (by omega) (by simp [hPC]) hf.2 hO (by
        simp only [List.append_assoc, List.singleton_append]
        exact h)
      simp only [List.append_assoc, List.singleton_append] at ih
      exact ih
theorem each_l3r {σ : Type} (st : Nat → List (List Int) → σ → Option σ) {d : Int} (hd : 1 ≤ d ∧ d ≤ 1000) (T : List (List Int)) (hT : T.length ≤ 5) (hr : ∀ r ∈ T, r.length ≤ 5 ∧ ∀ x ∈ r, 0 ≤ x ∧ x ≤ 100000) (n F : Nat) (hn : n < 16777216) (OP : List S62) (hOP : OP.length ≤ 14) (s : σ) (A D : List S62) (a b : Int) {z : σ × Bool} : ∀ (e i : Nat) (Q : List S62) (PR XS : List (List Int)), i + e = T.length → PR.length = i → fitR (CLS d (T.drop i)) XS → OP = Q ++ opsRR i (CLS d (T.drop i)) →
    Ev (fun k => impl_eachTable.l3 st k OP (PR ++ asgR (CLS d (T.drop i)) n) (n : Int) (F : Int) (n : Int) OP (OP.length : Int) (OP.length : Int) s (CELLS d T) A D a b) z →
    Ev (fun k => impl_eachTable.l3 st k OP (PR ++ XS) (n : Int) (F : Int) (n : Int) OP (OP.length : Int) (Q.length : Int) s (CELLS d T) A D a b) z
  | 0, i, Q, PR, XS, hi, hPR, hf, hO, h => by
    rw [List.drop_eq_nil_of_le (by omega), show CLS d [] = [] from rfl] at hf h hO
    have hx : XS = [] := by cases XS with | nil => rfl | cons _ _ => exact hf.elim
    subst hx
    rw [opsRR, List.append_nil] at hO
    rw [asgR, hO] at h
    rw [hO]
    exact h
  | e + 1, i, Q, PR, XS, hi, hPR, hf, hO, h => by
    have hi' : i < T.length := by omega
    have hm := hr _ (List.getElem_mem hi')
    rw [List.drop_eq_getElem_cons hi', show CLS d (T[i] :: T.drop (i + 1)) = (T[i]).map (cl d) :: CLS d (T.drop (i + 1)) from rfl] at hf h hO
    obtain ⟨x, ys, rfl⟩ : ∃ x ys, XS = x :: ys := by cases XS with | nil => exact hf.elim | cons x ys => exact ⟨x, ys, rfl⟩
    rw [opsRR] at hO
    rw [asgR] at h
    refine each_l3c st hd T hT n F hn OP hOP i hi' hm.1 hm.2 PR ys hPR (opsRR (i + 1) (CLS d (T.drop (i + 1)))) (opensR (CLS d (T.drop (i + 1)))) (opsRR_len _ _) s A D a b (T[i]).length 0 Q [] x (by omega) rfl (by rw [List.drop_zero]; exact hf.1) (by rw [List.drop_zero]; exact hO) ?_
    have ih := each_l3r st hd T hT hr n F hn OP hOP s A D a b e (i + 1) (Q ++ opsC i 0 ((T[i]).map (cl d))) (PR ++ [asg ((T[i]).map (cl d)) (n / 2 ^ opensR (CLS d (T.drop (i + 1))))]) ys (z := z) (by omega) (by simp [hPR]) hf.2 (by rw [hO, List.append_assoc]) (by
      simp only [List.append_assoc, List.singleton_append]
      exact h)
    simp only [List.append_assoc, List.singleton_append, List.length_append, opsC_len] at ih
    rw [List.drop_zero, List.nil_append]
    exact ih
def hRow (d : Int) (T X : List (List Int)) (i : Nat) : Bool := decide ((X.getD i []).length = (T.headD []).length) && (isRound (wsum 0 (X.getD i [])) (wsum 0 (T.getD i [])) d && (List.range (X.getD i []).length).all fun j => isRound ((X.getD i []).getD j 0) ((T.getD i []).getD j 0) d)
theorem holds_lim (d : Int) (T X : List (List Int)) (hX : X.length ≤ 1048576) (hr : ∀ r ∈ X, r.length ≤ 1048576) (hn1 : 1 ≤ T.length) (hn5 : T.length ≤ 1048576) (hm5 : (T.headD []).length ≤ 5) (hm : ∀ i, i < T.length → (T.getD i []).length = (T.headD []).length) : Ev (fun k => impl_limits_holds.f k (LIM d T).1 (LIM d T).2.1 (LIM d T).2.2.1 (LIM d T).2.2.2.1 (LIM d T).2.2.2.2 X) (decide (X.length = T.length) && ((List.range X.length).all (hRow d T X) && rC d T X (T.headD []).length)) := by
  have c1 : (LIM d T).2.2.1.length = (T.headD []).length := by simp only [LIM, List.length_map, List.length_range]
  have c2 : (LIM d T).2.1.length = T.length := by simp only [LIM, List.length_map]
  refine (holds_ev d T X (LIM d T).2.1 (LIM d T).2.2.1 (LIM d T).2.2.2.1 (LIM d T).2.2.2.2 hX hr hn1 c2 hn5 (by omega) (fun i hi => by rw [c1]; exact hm i hi)).to ?_
  unfold HOLDS
  rw [c1, c2]
  by_cases e : X.length = T.length
  · congr 2
    · rw [Bool.eq_iff_iff, List.all_eq_true, List.all_eq_true]
      refine forall_congr' fun i => forall_congr' fun hi => ?_
      have hi' : i < T.length := by rw [← e]; exact List.mem_range.1 hi
      have ht : rd_T62 (LIM d T).2.1 (i : Int) = SPN d (wsum 0 (T.getD i [])) := by
        show rd_T62 ((T.map (wsum 0)).map (SPN d)) (i : Int) = _
        rw [rdt_map d (by rw [List.length_map]; omega), getD_map (wsum 0) ([] : List Int) (0 : Int) (by omega)]
      unfold hRowG hRow
      rw [ht]
      rfl
    · unfold rCG rC
      rw [c1]
      have : ∀ k ∈ List.range (T.headD []).length, isIn (rd_T62 (LIM d T).2.2.1 (k : Int)) (wsum 0 (colOf X k)) = isRound (wsum 0 (colOf X k)) (wsum 0 (colOf T k)) d := by
        intro k hk
        have hk := List.mem_range.1 hk
        have ht : rd_T62 (LIM d T).2.2.1 (k : Int) = SPN d (wsum 0 (colOf T k)) := by
          show rd_T62 (((List.range (T.headD []).length).map fun k => wsum 0 (colOf T k)).map (SPN d)) (k : Int) = _
          rw [rdt_map d (by rw [List.length_map, List.length_range]; exact hk), getD_range _ _ hk]
        rw [ht]
        rfl
      have h2 : (List.range (T.headD []).length).all (fun k => isIn (rd_T62 (LIM d T).2.2.1 (k : Int)) (wsum 0 (colOf X k))) = (List.range (T.headD []).length).all (fun k => isRound (wsum 0 (colOf X k)) (wsum 0 (colOf T k)) d) := by
        rw [Bool.eq_iff_iff, List.all_eq_true, List.all_eq_true]
        exact forall_congr' fun k => forall_congr' fun hk => by rw [this k hk]
      rw [h2]
      rfl
  · rw [decide_eq_false e]; rfl
theorem tr_eq (d : Int) (T X : List (List Int)) (hm : ∀ i, i < T.length → (T.getD i []).length = (T.headD []).length) : TR d T X = (decide (X.length = T.length) && ((List.range X.length).all (hRow d T X) && rC d T X (T.headD []).length)) := by
  unfold TR EL rR
  by_cases e : X.length = T.length
  · rw [decide_eq_true e, Bool.true_and, Bool.true_and, ← e, ← Bool.and_assoc, ← all_and2]
    congr 1
    rw [Bool.eq_iff_iff, List.all_eq_true, List.all_eq_true]
    refine forall_congr' fun i => forall_congr' fun hi => ?_
    have hi' : i < T.length := by rw [← e]; exact List.mem_range.1 hi
    rw [← Bool.eq_iff_iff, elRow, hRow, hm i hi']
    cases decide ((X.getD i []).length = (T.headD []).length) <;> cases isRound (wsum 0 (X.getD i [])) (wsum 0 (T.getD i [])) d <;> simp
  · rw [decide_eq_false e, Bool.false_and, Bool.false_and, Bool.false_and]
theorem vt_more {d : Int} {l : List (List Int)} (h : VT d l = true) : (1 ≤ d ∧ d ≤ 1000) ∧ ∀ i, i < l.length → ∀ x ∈ l.getD i [], 0 ≤ x ∧ x ≤ 100000 := by
  simp only [VT, rowOk, Bool.and_eq_true, List.all_eq_true, decide_eq_true_iff] at h
  obtain ⟨h1, _, _, h4⟩ := h
  exact ⟨h1, fun i hi => (h4 (l.getD i []) (getD_mem hi)).2⟩
theorem each_l2 {σ : Type} (st : Nat → List (List Int) → σ → Option σ) {d : Int} {T : List (List Int)} (hV : VT d T = true) (hr0 : ∀ r ∈ T, r.length ≤ 1048576) (g : Nat → σ → σ) (P : Nat → σ → Prop) (f : Nat) (hf : opensR (CLS d T) = f) (hf14 : f ≤ 14) (hst : ∀ n s, n < 2 ^ f → P n s → TR d T (asgR (CLS d T) n) = true → Ev (fun k => st k (asgR (CLS d T) n) s) (g n s) ∧ P (n + 1) (g n s)) (hP : ∀ n s, n < 2 ^ f → P n s → P (n + 1) s) : ∀ (e n : Nat) (s : σ) (X : List (List Int)), n + e = 2 ^ f → P n s → fitR (CLS d T) X → Ev (fun k => impl_eachTable.l2 st k (opsRR 0 (CLS d T)) X ((2 ^ f : Nat) : Int) (n : Int) s (LIM d T).1 (LIM d T).2.1 (LIM d T).2.2.1 (LIM d T).2.2.2.1 (LIM d T).2.2.2.2) (FLD (fun n => TR d T (asgR (CLS d T) n)) g n e s, true) := by
  obtain ⟨f1, f2, f3, f4⟩ := vt_facts hV
  obtain ⟨g1, g2⟩ := vt_more hV
  have pB : 2 ^ f ≤ 2 ^ 14 := Nat.pow_le_pow_right (by decide) hf14
  have hr : ∀ r ∈ T, r.length ≤ 5 ∧ ∀ x ∈ r, 0 ≤ x ∧ x ≤ 100000 := fun r h => by
    obtain ⟨i, hi, rfl⟩ := List.getElem_of_mem h
    have e : T.getD i [] = T[i] := by rw [List.getD_eq_getElem?_getD, List.getElem?_eq_getElem hi]; rfl
    have h4 := f4 i hi
    have h2 := g2 i hi
    rw [e] at h4 h2
    exact ⟨by omega, h2⟩
  intro e
  induction e with
  | zero =>
    intro n s X hn hp hX
    apply Ev.succ
    simp only [impl_eachTable.l2, if_neg (show ¬ (n : Int) < ((2 ^ f : Nat) : Int) by omega)]
    exact Ev.now _
  | succ e ih =>
    intro n s X hn hp hX
    have hnl : n < 2 ^ f := by omega
    have lB : (asgR (CLS d T) n).length = T.length := by rw [asgR_len]; unfold CLS; rw [List.length_map]
    have hH := holds_lim d T (asgR (CLS d T) n) (by omega) (fun r h => by
      obtain ⟨R, hR, m, rfl⟩ := asgR_mem _ _ _ h
      unfold CLS at hR
      obtain ⟨t, ht, rfl⟩ := List.mem_map.1 hR
      rw [asg_len, List.length_map]
      have := (hr t ht).1
      omega) f1 (by omega) f3 f4
    rw [← tr_eq d T (asgR (CLS d T) n) f4] at hH
    apply Ev.succ
    simp only [impl_eachTable.l2, if_pos (show (n : Int) < ((2 ^ f : Nat) : Int) by omega)]
    refine each_l3r st g1 T f2 hr n (2 ^ f) (by omega) (opsRR 0 (CLS d T)) (by rw [opsRR_len, hf]; exact hf14) s _ _ _ _ T.length 0 [] [] X (by omega) rfl (by rw [List.drop_zero]; exact hX) (by rw [List.drop_zero]; rfl) ?_
    rw [List.drop_zero, List.nil_append]
    apply Ev.succ
    simp only [impl_eachTable.l3, if_neg (show ¬ ((opsRR 0 (CLS d T)).length : Int) < ((opsRR 0 (CLS d T)).length : Int) by omega)]
    refine Ev.bind hH ?_
    rw [FLD, w64 (by omega) (by omega), show (n : Int) + 1 = ((n + 1 : Nat) : Int) by omega]
    by_cases c : TR d T (asgR (CLS d T) n) = true
    · obtain ⟨h1, h2⟩ := hst n s hnl hp c
      simp only [if_pos c]
      exact Ev.bind h1 (ih (n + 1) (g n s) _ (by omega) h2 (fitR_asgR _ _))
    · simp only [if_neg c]
      exact ih (n + 1) s _ (by omega) (hP n s hnl hp) (fitR_asgR _ _)
theorem each_ev {σ : Type} (st : Nat → List (List Int) → σ → Option σ) (d : Int) (T : List (List Int)) (hl : T.length ≤ 1048576) (hr : ∀ r ∈ T, r.length ≤ 1048576) (g : Nat → σ → σ) (P : Nat → σ → Prop) (s0 : σ) (hP0 : P 0 s0) (hst : VT d T = true → opensR (CLS d T) ≤ 14 → ∀ n s, n < 2 ^ opensR (CLS d T) → P n s → TR d T (asgR (CLS d T) n) = true → Ev (fun k => st k (asgR (CLS d T) n) s) (g n s) ∧ P (n + 1) (g n s)) (hP : ∀ n s, P n s → P (n + 1) s) : Ev (fun k => impl_eachTable.f st k d T s0) (if VT d T = true then (if opensR (CLS d T) ≤ 14 then (FLD (fun n => TR d T (asgR (CLS d T) n)) g 0 (2 ^ opensR (CLS d T)) s0, true) else (s0, false)) else (s0, false)) := by
  unfold impl_eachTable.f
  refine Ev.bind ((iVT_ev d T hl hr).to (show iVT d T = VT d T from rfl)) ?_
  cases hV : VT d T with
  | false =>
    simp only [Bool.false_eq_true, if_false]
    exact Ev.now _
  | true =>
    obtain ⟨f1, f2, f3, f4⟩ := vt_facts hV
    obtain ⟨g1, g2⟩ := vt_more hV
    have hr5 : ∀ r ∈ T, r.length ≤ 5 := fun r h => by
      obtain ⟨i, hi, rfl⟩ := List.getElem_of_mem h
      have e : T.getD i [] = T[i] := by rw [List.getD_eq_getElem?_getD, List.getElem?_eq_getElem hi]; rfl
      have h4 := f4 i hi
      rw [e] at h4
      omega
    simp only [if_true]
    refine Ev.bind (limits_ev d T g1 f1 f2 f3 f4 g2 hr) ?_
    have hcl : (LIM d T).1.length = T.length := by simp only [LIM, List.length_map]
    rw [hcl]
    refine each_l0 st g1 T f2 hr5 s0 _ _ _ _ _ T.length 0 [] (by omega) (by simp) ?_
    rw [List.drop_zero, List.nil_append, opsRR_len]
    by_cases c : opensR (CLS d T) ≤ 14
    · simp only [if_neg (show ¬ (opensR (CLS d T) : Int) > 14 by omega), if_pos c]
      have pB : 2 ^ opensR (CLS d T) ≤ 2 ^ 14 := Nat.pow_le_pow_right (by decide) c
      have e2 : ((2 : Int) ^ opensR (CLS d T)) = ((2 ^ opensR (CLS d T) : Nat) : Int) := by simp
      rw [shl_n _ (by omega), e2, w64nat _ (Nat.le_trans pB (by decide))]
      have hfit : fitR (CLS d T) (FLO d T) := by
        rw [← flo_asg]; exact fitR_asgR (CLS d T) 0
      exact each_l2 st hV hr g P _ rfl c (fun n s h1 h2 h3 => hst hV c n s h1 h2 h3) (fun n s _ h => hP n s h) _ 0 s0 _ (by omega) hP0 hfit
    · simp only [if_pos (show (opensR (CLS d T) : Int) > 14 by omega), if_neg c]
      exact Ev.now _


theorem nlit_l0 {d : Int} (hd : 1 ≤ d ∧ d ≤ 1000) (T X : List (List Int)) (hl : X.length = T.length) (hT : T.length ≤ 5) (hr : ∀ i, (X.getD i []).length = (T.getD i []).length) (hb : ∀ r ∈ X, r.length ≤ 5 ∧ ∀ y ∈ r, 0 ≤ y ∧ y ≤ 100001) (hc : ∀ r ∈ T, ∀ y ∈ r, 0 ≤ y ∧ y ≤ 100000) (m : Int) : ∀ (e i : Nat) (a : Int), i + e = X.length → 0 ≤ a → a ≤ 1000000000 * (i : Int) → Ev (fun k => impl_NearestTable_1.l0 k X a X (X.length : Int) (i : Int) 0 false d T m) (if m < 0 ∨ a + errT d (X.drop i) (T.drop i) < m then (X, a + errT d (X.drop i) (T.drop i), true) else ([], 0, false))
  | 0, i, a, hi, h0, h1 => by
    rw [List.drop_eq_nil_of_le (by omega), show errT d [] (T.drop i) = 0 from by simp [errT], Int.add_zero]
    have hO := ownr_ev X (by omega) (fun r h => by have := (hb r h).1; omega)
    apply Ev.succ
    simp only [impl_NearestTable_1.l0, if_neg (show ¬ (i : Int) < (X.length : Int) by omega)]
    by_cases c1 : m < 0
    · rw [if_pos (Or.inl c1)]
      simp only [if_pos c1]
      exact Ev.bind hO (Ev.now _)
    · simp only [if_neg c1]
      by_cases c2 : a < m
      · rw [if_pos (Or.inr c2)]
        simp only [if_pos c2]
        exact Ev.bind hO (Ev.now _)
      · rw [if_neg (fun q => q.elim c1 c2)]
        simp only [if_neg c2]
        exact Ev.now _
  | e + 1, i, a, hi, h0, h1 => by
    have hi' : i < X.length := by omega
    have hit : i < T.length := by omega
    have e1 : X.getD i [] = X[i] := by rw [List.getD_eq_getElem?_getD, List.getElem?_eq_getElem hi']; rfl
    have e2 : T.getD i [] = T[i] := by rw [List.getD_eq_getElem?_getD, List.getElem?_eq_getElem hit]; rfl
    have hri := hr i
    rw [e1, e2] at hri
    have q1 := hb _ (List.getElem_mem hi')
    have q2 := hc _ (List.getElem_mem hit)
    have q3 := errR_rng hd X[i] T[i] q1.2 q2
    have hE := ierr_ev hd T[i] X[i] hri (by omega) q1.2 q2
    have hN := norm0_ev (errL d X[i] T[i]) (by rw [errL_len d _ _ hri]; omega) (errL_mem hd X[i] T[i] q1.2 q2)
    rw [absS_errL] at hN
    rw [List.drop_eq_getElem_cons hi', List.drop_eq_getElem_cons hit, errT, ← Int.add_assoc]
    apply Ev.succ
    simp only [impl_NearestTable_1.l0, if_pos (show (i : Int) < (X.length : Int) by omega), if_pos (show (0 : Int) ≤ (i : Int) by omega), if_pos (show (i : Int) < (T.length : Int) by omega), rdl_nx, e1, e2]
    refine Ev.bind hE (Ev.bind hN ?_)
    rw [w64 (x := a + errR d X[i] T[i]) (by omega) (by omega), w64 (x := (i : Int) + 1) (by omega) (by omega), show (i : Int) + 1 = ((i + 1 : Nat) : Int) by omega]
    exact nlit_l0 hd T X hl hT hr hb hc m e (i + 1) _ (by omega) (by omega) (by omega)
theorem nt_impl (d : Int) (T : List (List Int)) (hl : T.length ≤ 1048576) (hr : ∀ r ∈ T, r.length ≤ 1048576) : Ev (fun k => impl_NearestTable.f k d T) (NTB d T) := by
  unfold impl_NearestTable.f
  have h := each_ev (impl_NearestTable_1.j0 d T) d T hl hr (NEA d T) (fun _ s => nOk s) ([], -1) ⟨by simp, by simp, by omega, by omega⟩ (fun hV hf n s hn hp _ => by
    refine ⟨?_, nea_ok hV n hn hp⟩
    obtain ⟨hR, hN, lB, gB, mB⟩ := cls_facts hV n hn
    obtain ⟨hd, wB⟩ := vt_rows hV
    obtain ⟨f1, f2, f3, f4⟩ := vt_facts hV
    have h1 := nlit_l0 hd T (asgR (CLS d T) n) lB f2 gB mB (fun r h => (wB r h).2) s.2 (asgR (CLS d T) n).length 0 0 (by omega) (by omega) (by omega)
    rw [List.drop_zero, List.drop_zero, Int.zero_add] at h1
    unfold impl_NearestTable_1.j0
    refine Ev.bind (show Ev (fun k => impl_NearestTable_1.f k (asgR (CLS d T) n) d T s.2 []) _ from h1) ?_
    refine (Ev.now _).to ?_
    unfold NEA
    split <;> simp) (fun n s h => h)
  refine Ev.bind h ?_
  unfold NTB
  by_cases hV : VT d T = true
  · by_cases c : opensR (CLS d T) ≤ 14
    · simp only [if_pos hV, if_pos c, if_true]
      exact Ev.now _
    · simp only [if_pos hV, if_neg c, Bool.false_eq_true, if_false]
      exact Ev.now _
  · simp only [if_neg hV, Bool.false_eq_true, if_false]
    exact Ev.now _


theorem mark_l0 (l : List Int) (m : Int) (hl : l.length ≤ 140737488355328) (h0 : 0 ≤ m) (h1 : m ≤ 4611686018427387904) : ∀ (d i : Nat), d + i = l.length → Ev (fun k => laws_markInt64S.l0 k (MARKS m i ++ l.drop i) (m + (i : Int)) i) (m + (l.length : Int), MARKS m l.length) := by
  intro d
  induction d with
  | zero =>
    intro i hd
    apply Ev.succ
    simp only [laws_markInt64S.l0, if_neg (show ¬ (i : Int) < ((MARKS m i ++ l.drop i).length : Int) by simp [MARKS_length]; omega)]
    rw [show i = l.length by omega, List.drop_length, List.append_nil]
    exact Ev.now _
  | succ d ih =>
    intro i hd
    have hi : i < l.length := by omega
    apply Ev.succ
    simp only [laws_markInt64S.l0, if_pos (show (i : Int) < ((MARKS m i ++ l.drop i).length : Int) by simp [MARKS_length]; omega), if_pos (show 0 ≤ (i : Int) by omega), Int.toNat_natCast, marks_step l m i hi, w64 (show (-9223372036854775808) ≤ (i : Int) + 1 by omega) (by omega), w64 (show (-9223372036854775808) ≤ m + (i : Int) + 1 by omega) (by omega)]
    have := ih (i + 1) (by omega)
    rw [Int.natCast_succ, ← Int.add_assoc] at this
    exact this
theorem markInt64S_ev (l : List Int) (m : Int) (hl : l.length ≤ 140737488355328) (h0 : 0 ≤ m) (h1 : m ≤ 4611686018427387904) : Ev (fun k => laws_markInt64S.f k l m) (m + (l.length : Int), MARKS m l.length) := by
  have := mark_l0 l m hl h0 h1 l.length 0 (by omega)
  simpa [laws_markInt64S.f, MARKS] using this


theorem rdl_getM {xs : List (List Int)} {i : Nat} : rd_L1 xs (i : Int) = xs.getD i [] := by
  unfold rd_L1; simp
theorem mssk_l0 (l : List (List Int)) (m : Int) (hl : l.length ≤ 1048576) (hr : ∀ r ∈ l, r.length ≤ 1048576) (h0 : 0 ≤ m) (h1 : m ≤ 100000000000000) : ∀ (d i : Nat), d + i = l.length → Ev (fun k => laws_markInt64SS.l0 k (MSS m (l.take i) ++ l.drop i) (mtot_ m (l.take i)) i) (mtot_ m l, MSS m l) := by
  have hb : ((1048576 : Nat) : Int) * (l.length : Int) ≤ 1099511627776 := by
    have := Int.mul_le_mul_of_nonneg_left (show (l.length : Int) ≤ 1048576 by omega) (show (0 : Int) ≤ ((1048576 : Nat) : Int) by omega)
    omega
  intro d
  induction d with
  | zero =>
    intro i hd
    apply Ev.succ
    simp only [laws_markInt64SS.l0, if_neg (show ¬ (i : Int) < ((MSS m (l.take i) ++ l.drop i).length : Int) by rw [List.length_append, MSS_length]; simp; omega)]
    rw [List.take_of_length_le (by omega), List.drop_of_length_le (by omega), List.append_nil]
    exact Ev.now _
  | succ d ih =>
    intro i hd
    have hi : i < l.length := by omega
    have hm := hr (l.getD i []) (getD_mem hi)
    have hb2 := mtot_mono l m i 1048576 hr (by omega)
    apply Ev.succ
    simp only [laws_markInt64SS.l0, if_pos (show (i : Int) < ((MSS m (l.take i) ++ l.drop i).length : Int) by rw [List.length_append, MSS_length]; simp; omega), if_pos (show 0 ≤ (i : Int) by omega), rdl_getM, MSS_now l m i hi, inc hi (by omega), Int.toNat_natCast]
    refine Ev.bind (markInt64S_ev (l.getD i []) (mtot_ m (l.take i)) (by omega) (by omega) (by omega)) ?_
    simp only [MSS_step l m i hi]
    rw [← mtot_take l m i hi]
    exact ih (i + 1) (by omega)
theorem markSSk_ev (l : List (List Int)) (m : Int) (hl : l.length ≤ 1048576) (hr : ∀ r ∈ l, r.length ≤ 1048576) (h0 : 0 ≤ m) (h1 : m ≤ 100000000000000) : Ev (fun k => laws_markInt64SS.f k l m) (mtot_ m l, MSS m l) := by
  have := mssk_l0 l m hl hr h0 h1 l.length 0 (by omega)
  simpa [laws_markInt64SS.f, MSS, mtot_] using this


theorem markTablek_ev (d : Int) (l : List (List Int)) (m : Int) (hl : l.length ≤ 1048576) (hr : ∀ r ∈ l, r.length ≤ 1048576) (h0 : 0 ≤ m) (h1 : m ≤ 1000000000) : Ev (fun k => laws_markTable.f k d l m) (mtot_ m l, MSS m l) := by
  unfold laws_markTable.f
  exact markSSk_ev l m hl hr h0 (by omega)


theorem held_l0 (m : Int) (n : Nat) (hl : n ≤ 140737488355328) (h0 : 0 ≤ m) (h1 : m ≤ 4611686018427387904) : ∀ (d i : Nat), d + i = n → Ev (fun k => laws_heldInt64S.l0 k (MARKS m n) (m + (i : Int)) i) (m + (n : Int)) := by
  intro d
  induction d with
  | zero =>
    intro i hd
    apply Ev.succ
    simp only [laws_heldInt64S.l0, MARKS_length, if_neg (show ¬ (i : Int) < (n : Int) by omega)]
    rw [show i = n by omega]
    exact Ev.now _
  | succ d ih =>
    intro i hd
    have hi : i < (MARKS m n).length := by rw [MARKS_length]; omega
    apply Ev.succ
    simp only [laws_heldInt64S.l0, MARKS_length, if_pos (show (i : Int) < (n : Int) by omega), if_pos (show 0 ≤ (i : Int) by omega), rd_get hi, MARKS_get m n i hi, if_true, w64 (show (-9223372036854775808) ≤ (i : Int) + 1 by omega) (by omega), w64 (show (-9223372036854775808) ≤ m + (i : Int) + 1 by omega) (by omega)]
    have := ih (i + 1) (by omega)
    rw [Int.natCast_succ, ← Int.add_assoc] at this
    exact this
theorem heldInt64S_ev (m : Int) (n : Nat) (hl : n ≤ 140737488355328) (h0 : 0 ≤ m) (h1 : m ≤ 4611686018427387904) : Ev (fun k => laws_heldInt64S.f k (MARKS m n) m) (m + (n : Int)) := by
  have := held_l0 m n hl h0 h1 n 0 (by omega)
  simpa [laws_heldInt64S.f] using this


theorem rdl_getHS {xs : List (List Int)} {i : Nat} : rd_L1 xs (i : Int) = xs.getD i [] := by
  unfold rd_L1; simp
theorem hss_l0 (l : List (List Int)) (m : Int) (hl : l.length ≤ 1048576) (hr : ∀ r ∈ l, r.length ≤ 1048576) (h0 : 0 ≤ m) (h1 : m ≤ 100000000000000) : ∀ (d i : Nat), d + i = l.length → Ev (fun k => laws_heldInt64SS.l0 k (MSS m l) (mtot_ m (l.take i)) i) (mtot_ m l) := by
  have hb : ((1048576 : Nat) : Int) * (l.length : Int) ≤ 1099511627776 := by
    have := Int.mul_le_mul_of_nonneg_left (show (l.length : Int) ≤ 1048576 by omega) (show (0 : Int) ≤ ((1048576 : Nat) : Int) by omega)
    omega
  intro d
  induction d with
  | zero =>
    intro i hd
    apply Ev.succ
    simp only [laws_heldInt64SS.l0, MSS_length, if_neg (show ¬ (i : Int) < (l.length : Int) by omega)]
    rw [List.take_of_length_le (by omega)]
    exact Ev.now _
  | succ d ih =>
    intro i hd
    have hi : i < l.length := by omega
    have hm := hr (l.getD i []) (getD_mem hi)
    have hb2 := mtot_mono l m i 1048576 hr (by omega)
    apply Ev.succ
    simp only [laws_heldInt64SS.l0, MSS_length, if_pos (show (i : Int) < (l.length : Int) by omega), if_pos (show 0 ≤ (i : Int) by omega), rdl_getHS, MSS_get l m i hi, inc hi (by omega)]
    refine Ev.bind (heldInt64S_ev (mtot_ m (l.take i)) (l.getD i []).length (by omega) (by omega) (by omega)) ?_
    simp only [if_neg (show ¬ (mtot_ m (l.take i) + ((l.getD i []).length : Int)) < 0 by omega)]
    rw [← mtot_take l m i hi]
    exact ih (i + 1) (by omega)
theorem heldSS_ev (l : List (List Int)) (m : Int) (hl : l.length ≤ 1048576) (hr : ∀ r ∈ l, r.length ≤ 1048576) (h0 : 0 ≤ m) (h1 : m ≤ 100000000000000) : Ev (fun k => laws_heldInt64SS.f k (MSS m l) m) (mtot_ m l) := by
  have := hss_l0 l m hl hr h0 h1 l.length 0 (by omega)
  simpa [laws_heldInt64SS.f, mtot_] using this


theorem ntb_ok (d : Int) (T : List (List Int)) : (NTB d T).1.length ≤ 5 ∧ ∀ r ∈ (NTB d T).1, r.length ≤ 5 := by
  unfold NTB
  by_cases hV : VT d T = true
  · rw [if_pos hV]
    split
    · have h := fld_ok hV (fun n => TR d T (asgR (CLS d T) n)) (2 ^ opensR (CLS d T)) 0 ([], -1) (by omega) ⟨by simp, by simp, by omega, by omega⟩
      exact ⟨h.1, h.2.1⟩
    · exact ⟨by simp, by simp⟩
  · rw [if_neg hV]
    exact ⟨by simp, by simp⟩
theorem FnExactNearestTable : laws_FnExactNearestTable.Pure := by
  intro d T _ hl hw
  apply Ev.rounds
  unfold laws_FnExactNearestTable.f
  obtain ⟨s, hs, hs2⟩ := szTable_ev d T hl (fun r h => (hw r h).1) 1048576 (by omega) (by omega)
  refine Ev.bind hs ?_
  rcases hs2 with rfl | ⟨h0, h1, h2, h3⟩
  · simp only [if_pos (show (-1 : Int) < 0 by omega)]
    exact Ev.now _
  simp only [if_neg (show ¬ s < 0 by omega)]
  have ht := toTable_ev d T h2 h3
  have hS := nt_spec d T h2 h3
  have hI := nt_impl d T h2 h3
  obtain ⟨n1, n2⟩ := ntb_ok d T
  generalize NTB d T = R at *
  obtain ⟨e, l, ok⟩ := R
  simp only at n1 n2
  have b1 := mtt_bnd e 1 5 n2
  have he := eqInt64SS_ev e e (by omega) (fun r hr => by have := n2 r hr; omega)
  have me := markSSk_ev e 1 (by omega) (fun r hr => by have := n2 r hr; omega) (by omega) (by omega)
  have qe := heldSS_ev e 1 (by omega) (fun r hr => by have := n2 r hr; omega) (by omega) (by omega)
  have hm := markTablek_ev d T 1 h2 h3 (by omega) (by omega)
  have hmt : 1 ≤ mtot_ 1 T := (mtt_bnd T 1 1048576 h3).1
  refine Ev.bind ht (Ev.bind hS (Ev.bind ht (Ev.bind hI (Ev.bind he ?_))))
  simp only [decide_true, if_true]
  refine Ev.bind ht (Ev.bind (eqTable_ev d T h2 h3) ?_)
  simp only [if_true]
  refine Ev.bind hm ?_
  simp only [if_neg (show ¬ mtot_ 1 T < 0 by omega)]
  refine Ev.bind he ?_
  simp only [decide_true, if_true]
  refine Ev.bind me (Ev.bind qe ?_)
  simp only [if_neg (show ¬ mtot_ 1 e < 0 by omega), if_true]
  refine Ev.bind ht (Ev.bind hI (Ev.bind he ?_))
  simp only [decide_true, if_true]
  refine Ev.bind qe ?_
  simp only [if_neg (show ¬ mtot_ 1 e < 0 by omega), if_true]
  exact Ev.now _


end Go.Proofs.Ytdcglkdgepdnpaa.Pure
