/- Proved: the pure half of the law FnExactIsMarginRounding: the printed functions answer true, for every input. No condition. -/
import Derived.Test.YtmjabeddommiaaaPFnExactIsMarginRoundingx12
import Derived.Test.YtmjabeddommiaaaBase
import Derived.Test.YtmjabeddommiaaaLists
import Derived.Test.YtmjabeddommiaaaTables
namespace Go.Proofs.Ytmjabeddommiaaa.Pure
open Go.RowKit Go.Proofs.Ytmjabeddommiaaa.PFnExactIsMarginRounding Go.Proofs.YtmjabeddommiaaaW.PrintWords Go.Proofs.YtmjabeddommiaaaW.PrintLast Go.Proofs.YtmjabeddommiaaaW.PrintMore Go.Proofs.Ytmjabeddommiaaa.Base
set_option linter.unusedVariables false
set_option linter.unusedSimpArgs false

/-! laws.szInt64S -/
theorem szS_eq (l : List Int) (a : Int) (hl : l.length ≤ 9223372036854775807) (h0 : 0 ≤ a) (h1 : a ≤ 1048576) : laws_szInt64S.f l a = some (if a < l.length then -1 else a - l.length) := by
  unfold laws_szInt64S.f
  rw [w64 (by omega) (by omega)]
  by_cases h : a < l.length
  · rw [if_pos (by omega), if_pos h]
  · rw [if_neg (by omega), if_neg h]

/-! laws.szInt64SS -/
theorem rdl_get {xs : List (List Int)} {i : Nat} (h : i < xs.length) : rd_L1 xs (i : Int) = xs[i] := by
  unfold rd_L1; exact getD_get h
theorem szSS_l0 (l : List (List Int)) (a : Int) (hl : l.length ≤ 1048576) (hr : ∀ r ∈ l, r.length ≤ 9223372036854775807) (h1 : a ≤ 1048576) : ∀ (d i : Nat) (b : Int), d + i = l.length → 0 ≤ b → b ≤ a → (∀ (j : Nat) (h : j < l.length), j < i → ((l[j]).length : Int) ≤ a) → ∃ r : Int, Ev (fun k => laws_szInt64SS.l0 k l b i) r ∧ (r = -1 ∨ (0 ≤ r ∧ r ≤ a ∧ ∀ x ∈ l, (x.length : Int) ≤ a)) := by
  intro d
  induction d with
  | zero =>
    intro i b hd h0 hb hj
    refine ⟨b, ?_, .inr ⟨h0, hb, fun x hx => ?_⟩⟩
    · apply Ev.succ
      simp only [laws_szInt64SS.l0, if_neg (show ¬ (i : Int) < (l.length : Int) by omega)]
      exact Ev.now _
    · obtain ⟨j, hj', rfl⟩ := List.getElem_of_mem hx
      exact hj j hj' (by omega)
  | succ d ih =>
    intro i b hd h0 hb hj
    have hi : i < l.length := by omega
    have hri := hr l[i] (List.getElem_mem hi)
    by_cases h : b < (l[i]).length
    · refine ⟨-1, ?_, .inl rfl⟩
      apply Ev.succ
      simp only [laws_szInt64SS.l0, if_pos (show (i : Int) < (l.length : Int) by omega), if_pos (show 0 ≤ (i : Int) by omega), rdl_get hi, szS_eq l[i] b hri h0 (by omega), if_pos h, Option.bind_some, if_pos (show (-1 : Int) < 0 by omega)]
      exact Ev.now _
    · obtain ⟨r, hr1, hr2⟩ := ih (i + 1) (b - (l[i]).length) (by omega) (by omega) (by omega) (fun j hj1 hj2 => by
        by_cases e : j = i
        · subst e; omega
        · exact hj j hj1 (by omega))
      refine ⟨r, ?_, hr2⟩
      apply Ev.succ
      simp only [laws_szInt64SS.l0, if_pos (show (i : Int) < (l.length : Int) by omega), if_pos (show 0 ≤ (i : Int) by omega), rdl_get hi, szS_eq l[i] b hri h0 (by omega), if_neg h, Option.bind_some, if_neg (show ¬ b - (l[i]).length < 0 by omega), w64 (show (-9223372036854775808) ≤ (i : Int) + 1 by omega) (by omega)]
      exact hr1
theorem szSS_ev (l : List (List Int)) (a : Int) (hl : l.length ≤ 9223372036854775807) (hr : ∀ r ∈ l, r.length ≤ 9223372036854775807) (h0 : 0 ≤ a) (h1 : a ≤ 1048576) : ∃ r : Int, Ev (fun k => laws_szInt64SS.f k l a) r ∧ (r = -1 ∨ (0 ≤ r ∧ r ≤ a ∧ l.length ≤ 1048576 ∧ ∀ x ∈ l, x.length ≤ 1048576)) := by
  unfold laws_szInt64SS.f
  rw [w64 (show (-9223372036854775808) ≤ a - (l.length : Int) by omega) (by omega)]
  by_cases h : a - (l.length : Int) < 0
  · simp only [if_pos h]
    exact ⟨-1, Ev.now _, .inl rfl⟩
  · simp only [if_neg h]
    obtain ⟨r, h1', h2⟩ := szSS_l0 l a (by omega) hr h1 l.length 0 (a - l.length) (by omega) (by omega) (by omega) (fun j _ hj => by omega)
    refine ⟨r, h1', ?_⟩
    rcases h2 with h2 | ⟨h2, h3, h4⟩
    · exact .inl h2
    · exact .inr ⟨h2, h3, by omega, fun x hx => by have := h4 x hx; omega⟩

/-! laws.szTable -/
theorem szTable_ev (d : Int) (l : List (List Int)) (hl : l.length ≤ 9223372036854775807) (hr : ∀ r ∈ l, r.length ≤ 9223372036854775807) (a : Int) (h0 : 0 ≤ a) (h1 : a ≤ 1048576) : ∃ r : Int, Ev (fun k => laws_szTable.f k d l a) r ∧ (r = -1 ∨ (0 ≤ r ∧ r ≤ a ∧ l.length ≤ 1048576 ∧ ∀ x ∈ l, x.length ≤ 1048576)) := by
  obtain ⟨r, h2, h3⟩ := szSS_ev l a hl hr h0 h1
  unfold laws_szTable.f
  refine ⟨r, Ev.bind h2 ?_, h3⟩
  rcases h3 with rfl | h3
  · exact Ev.now _
  · simp only [if_neg (show ¬ r < 0 by omega)]
    exact Ev.now _

/-! laws.toInt64S -/
theorem to_step (l : List Int) (i : Nat) (hi : i < l.length) : (l.take i ++ List.replicate (l.length - i) 0).set i l[i] = l.take (i + 1) ++ List.replicate (l.length - (i + 1)) 0 := by
  rw [show l.length - i = (l.length - (i + 1)) + 1 by omega, List.replicate_succ, List.set_append, if_neg (by simp; omega), List.length_take, Nat.min_eq_left (by omega), Nat.sub_self, List.set_cons_zero, List.take_succ_eq_append_getElem hi, List.append_assoc]
  rfl
theorem to_l0 (l : List Int) (hl : l.length ≤ 35184372088832) : ∀ (d i : Nat), d + i = l.length → Ev (fun k => laws_toInt64S.l0 k l (l.take i ++ List.replicate (l.length - i) 0) i) l := by
  intro d
  induction d with
  | zero =>
    intro i hd
    apply Ev.succ
    simp only [laws_toInt64S.l0, if_neg (show ¬ (i : Int) < (l.length : Int) by omega)]
    rw [List.take_of_length_le (by omega), show l.length - i = 0 by omega]
    simpa using Ev.now l
  | succ d ih =>
    intro i hd
    have hi : i < l.length := by omega
    apply Ev.succ
    simp only [laws_toInt64S.l0, if_pos (show (i : Int) < (l.length : Int) by omega), if_pos (show 0 ≤ (i : Int) by omega), if_pos (show (i : Int) < ((l.take i ++ List.replicate (l.length - i) (0 : Int)).length : Int) by simp; omega), rd_get hi, w64 (show (-9223372036854775808) ≤ (i : Int) + 1 by omega) (by omega), Int.toNat_natCast, to_step l i hi]
    exact ih (i + 1) (by omega)
theorem toInt64S_ev (l : List Int) (hl : l.length ≤ 35184372088832) : Ev (fun k => laws_toInt64S.f k l) l := by
  simp only [laws_toInt64S.f, if_pos (show 0 ≤ (l.length : Int) by omega), Int.toNat_natCast, if_pos hl]
  have := to_l0 l hl l.length 0 (by omega)
  simpa using this

/-! laws.toInt64SS -/
theorem toss_step (l : List (List Int)) (i : Nat) (hi : i < l.length) : (l.take i ++ List.replicate (l.length - i) []).set i l[i] = l.take (i + 1) ++ List.replicate (l.length - (i + 1)) [] := by
  rw [show l.length - i = (l.length - (i + 1)) + 1 by omega, List.replicate_succ, List.set_append, if_neg (by simp; omega), List.length_take, Nat.min_eq_left (by omega), Nat.sub_self, List.set_cons_zero, List.take_succ_eq_append_getElem hi, List.append_assoc]
  rfl
theorem rdl_get2 {xs : List (List Int)} {i : Nat} (h : i < xs.length) : rd_L1 xs (i : Int) = xs[i] := by
  unfold rd_L1; exact getD_get h
theorem toss_l0 (l : List (List Int)) (hl : l.length ≤ 1048576) (hr : ∀ r ∈ l, r.length ≤ 1048576) : ∀ (d i : Nat), d + i = l.length → Ev (fun k => laws_toInt64SS.l0 k l (l.take i ++ List.replicate (l.length - i) []) i) l := by
  intro d
  induction d with
  | zero =>
    intro i hd
    apply Ev.succ
    simp only [laws_toInt64SS.l0, if_neg (show ¬ (i : Int) < (l.length : Int) by omega)]
    rw [List.take_of_length_le (by omega), show l.length - i = 0 by omega]
    simpa using Ev.now l
  | succ d ih =>
    intro i hd
    have hi : i < l.length := by omega
    have hri := hr l[i] (List.getElem_mem hi)
    apply Ev.succ
    simp only [laws_toInt64SS.l0, if_pos (show (i : Int) < (l.length : Int) by omega), if_pos (show 0 ≤ (i : Int) by omega), if_pos (show (i : Int) < ((l.take i ++ List.replicate (l.length - i) ([] : List Int)).length : Int) by simp; omega), rdl_get2 hi, w64 (show (-9223372036854775808) ≤ (i : Int) + 1 by omega) (by omega), Int.toNat_natCast]
    refine Ev.bind (toInt64S_ev l[i] (by omega)) ?_
    rw [toss_step l i hi]
    exact ih (i + 1) (by omega)
theorem toInt64SS_ev (l : List (List Int)) (hl : l.length ≤ 1048576) (hr : ∀ r ∈ l, r.length ≤ 1048576) : Ev (fun k => laws_toInt64SS.f k l) l := by
  simp only [laws_toInt64SS.f, if_pos (show 0 ≤ (l.length : Int) by omega), Int.toNat_natCast, if_pos (show l.length ≤ 11728124029610 by omega)]
  have := toss_l0 l hl hr l.length 0 (by omega)
  simpa using this

/-! laws.toTable -/
theorem toTable_ev (d : Int) (l : List (List Int)) (hl : l.length ≤ 1048576) (hr : ∀ r ∈ l, r.length ≤ 1048576) : Ev (fun k => laws_toTable.f k d l) (d, l) := by
  unfold laws_toTable.f
  exact Ev.bind (toInt64SS_ev l hl hr) (Ev.now _)

/-! laws.eqInt64S -/
theorem eq_l0 (a b : List Int) (hl : a.length = b.length) (hm : a.length ≤ 9223372036854775806) : ∀ (d i : Nat), d + i = a.length → Ev (fun k => laws_eqInt64S.l0 k a b i) (decide (a.drop i = b.drop i)) := by
  intro d
  induction d with
  | zero =>
    intro i hd
    apply Ev.succ
    simp only [laws_eqInt64S.l0, if_neg (show ¬ (i : Int) < (a.length : Int) by omega)]
    rw [List.drop_of_length_le (by omega), List.drop_of_length_le (by omega)]
    exact Ev.now _
  | succ d ih =>
    intro i hd
    have hi : i < a.length := by omega
    have hi' : i < b.length := by omega
    apply Ev.succ
    simp only [laws_eqInt64S.l0, if_pos (show (i : Int) < (a.length : Int) by omega), if_pos (show 0 ≤ (i : Int) by omega), if_pos (show (i : Int) < (b.length : Int) by omega), rd_get hi, rd_get hi', w64 (show (-9223372036854775808) ≤ (i : Int) + 1 by omega) (by omega)]
    rw [List.drop_eq_getElem_cons hi, List.drop_eq_getElem_cons hi']
    by_cases h : a[i] = b[i]
    · simp only [if_pos h]
      exact (ih (i + 1) (by omega)).to (by simp only [List.cons.injEq, h, true_and])
    · simp only [if_neg h]
      exact (Ev.now _).to (by simp only [List.cons.injEq, h, false_and, decide_false])
theorem eqInt64S_ev (a b : List Int) (hm : a.length ≤ 9223372036854775806) : Ev (fun k => laws_eqInt64S.f k a b) (decide (a = b)) := by
  unfold laws_eqInt64S.f
  by_cases h : a.length = b.length
  · simp only [if_pos (show (a.length : Int) = (b.length : Int) by omega)]
    simpa using eq_l0 a b h hm a.length 0 (by omega)
  · simp only [if_neg (show ¬ (a.length : Int) = (b.length : Int) by omega)]
    exact (Ev.now _).to (by symm; simp; intro e; exact h (by rw [e]))

/-! laws.eqInt64SS -/
theorem rdl_get3 {xs : List (List Int)} {i : Nat} (h : i < xs.length) : rd_L1 xs (i : Int) = xs[i] := by
  unfold rd_L1; exact getD_get h
theorem eqss_l0 (a b : List (List Int)) (hl : a.length = b.length) (hm : a.length ≤ 9223372036854775806) (hr : ∀ r ∈ a, r.length ≤ 9223372036854775806) : ∀ (d i : Nat), d + i = a.length → Ev (fun k => laws_eqInt64SS.l0 k a b i) (decide (a.drop i = b.drop i)) := by
  intro d
  induction d with
  | zero =>
    intro i hd
    apply Ev.succ
    simp only [laws_eqInt64SS.l0, if_neg (show ¬ (i : Int) < (a.length : Int) by omega)]
    rw [List.drop_of_length_le (by omega), List.drop_of_length_le (by omega)]
    exact Ev.now _
  | succ d ih =>
    intro i hd
    have hi : i < a.length := by omega
    have hi' : i < b.length := by omega
    apply Ev.succ
    simp only [laws_eqInt64SS.l0, if_pos (show (i : Int) < (a.length : Int) by omega), if_pos (show 0 ≤ (i : Int) by omega), if_pos (show (i : Int) < (b.length : Int) by omega), rdl_get3 hi, rdl_get3 hi', w64 (show (-9223372036854775808) ≤ (i : Int) + 1 by omega) (by omega)]
    rw [List.drop_eq_getElem_cons hi, List.drop_eq_getElem_cons hi']
    refine Ev.bind (eqInt64S_ev a[i] b[i] (hr _ (List.getElem_mem hi))) ?_
    by_cases h : a[i] = b[i]
    · simp only [decide_eq_true h, if_true]
      exact (ih (i + 1) (by omega)).to (by simp only [List.cons.injEq, h, true_and])
    · simp only [decide_eq_false h, Bool.false_eq_true, if_false]
      exact (Ev.now _).to (by simp only [List.cons.injEq, h, false_and, decide_false])
theorem eqInt64SS_ev (a b : List (List Int)) (hm : a.length ≤ 9223372036854775806) (hr : ∀ r ∈ a, r.length ≤ 9223372036854775806) : Ev (fun k => laws_eqInt64SS.f k a b) (decide (a = b)) := by
  unfold laws_eqInt64SS.f
  by_cases h : a.length = b.length
  · simp only [if_pos (show (a.length : Int) = (b.length : Int) by omega)]
    simpa using eqss_l0 a b h hm hr a.length 0 (by omega)
  · simp only [if_neg (show ¬ (a.length : Int) = (b.length : Int) by omega)]
    exact (Ev.now _).to (by symm; simp; intro e; exact h (by rw [e]))

/-! laws.eqTable -/
theorem eqTable_ev (d : Int) (l : List (List Int)) (hl : l.length ≤ 1048576) (hr : ∀ r ∈ l, r.length ≤ 1048576) : Ev (fun k => laws_eqTable.f k d l d l) true := by
  unfold laws_eqTable.f
  simp only [if_true]
  refine Ev.bind (eqInt64SS_ev l l (by omega) (fun r h => by have := hr r h; omega)) ?_
  simp only [decide_true, if_true]
  exact Ev.now _

/-! spec.l01Sum -/
theorem ssum_l0 (l : List Int) (hl : l.length ≤ 9223372036854775806) : ∀ (d i : Nat) (acc : Int), d + i = l.length → Ev (fun k => spec_l01Sum.l0 k l acc i) (wsum acc (l.drop i)) := by
  intro d
  induction d with
  | zero =>
    intro i acc hd
    apply Ev.succ
    simp only [spec_l01Sum.l0, if_neg (show ¬ (i : Int) < (l.length : Int) by omega)]
    rw [List.drop_of_length_le (by omega)]
    exact Ev.now _
  | succ d ih =>
    intro i acc hd
    have hi : i < l.length := by omega
    apply Ev.succ
    simp only [spec_l01Sum.l0, if_pos (show (i : Int) < (l.length : Int) by omega), if_pos (show 0 ≤ (i : Int) by omega), rd_get hi, w64 (show (-9223372036854775808) ≤ (i : Int) + 1 by omega) (by omega)]
    rw [List.drop_eq_getElem_cons hi]
    exact ih (i + 1) _ (by omega)
theorem ssum_ev (l : List Int) (hl : l.length ≤ 9223372036854775806) : Ev (fun k => spec_l01Sum.f k l) (wsum 0 l) := by
  have := ssum_l0 l hl l.length 0 0 (by omega)
  simpa [spec_l01Sum.f] using this

/-! spec.l05Across -/
theorem rdl_getAc {xs : List (List Int)} {i : Nat} (h : i < xs.length) : rd_L1 xs (i : Int) = xs[i] := by
  unfold rd_L1; exact getD_get h
theorem across_l0 (l : List (List Int)) (hl : l.length ≤ 1048576) (hr : ∀ r ∈ l, r.length ≤ 1048576) : ∀ (d i : Nat), d + i = l.length → Ev (fun k => spec_l05Across.l0 k l ((l.take i).map (wsum 0)) i) (l.map (wsum 0)) := by
  intro d
  induction d with
  | zero =>
    intro i hd
    apply Ev.succ
    simp only [spec_l05Across.l0, if_neg (show ¬ (i : Int) < (l.length : Int) by omega)]
    rw [List.take_of_length_le (by omega)]
    exact Ev.now _
  | succ d ih =>
    intro i hd
    have hi : i < l.length := by omega
    have hm := hr l[i] (List.getElem_mem hi)
    apply Ev.succ
    simp only [spec_l05Across.l0, if_pos (show (i : Int) < (l.length : Int) by omega), if_pos (show 0 ≤ (i : Int) by omega), rdl_getAc hi, inc hi (by omega)]
    refine Ev.bind (ssum_ev l[i] (by omega)) ?_
    simp only [if_pos (show ((l.take i).map (wsum 0)).length < 17592186044416 by simp; omega)]
    have := ih (i + 1) (by omega)
    rw [List.take_succ_eq_append_getElem hi, List.map_append] at this
    exact this
theorem across_ev (l : List (List Int)) (hl : l.length ≤ 1048576) (hr : ∀ r ∈ l, r.length ≤ 1048576) : Ev (fun k => spec_l05Across.f k l) (l.map (wsum 0)) := by
  have := across_l0 l hl hr l.length 0 (by omega)
  unfold spec_l05Across.f
  exact this

/-! spec.l05Down -/
theorem rdl_getDn {xs : List (List Int)} {i : Nat} : rd_L1 xs (i : Int) = xs.getD i [] := by
  unfold rd_L1; simp
theorem rdl_headDn (xs : List (List Int)) : rd_L1 xs 0 = xs.headD [] := by
  unfold rd_L1; cases xs <;> rfl
theorem rd_getDn {xs : List Int} {i : Nat} : rd xs (i : Int) = xs.getD i 0 := by
  unfold rd; simp
theorem down_l1 (l : List (List Int)) (m i : Nat) (hl : l.length ≤ 1048576) (hm : m ≤ 1048576) (hi : i < l.length) (hr : (l.getD i []).length = m) {R : List Int} (hs : Ev (fun k => spec_l05Down.l0 k l (stair (dcol l) m (i + 1) 0) ((i : Int) + 1)) R) : ∀ (d j : Nat), d + j = m → Ev (fun k => spec_l05Down.l1 k l (stair (dcol l) m i j) i j) R := by
  intro d
  induction d with
  | zero =>
    intro j hd
    apply Ev.succ
    have e : j = m := by omega
    subst e
    simp only [spec_l05Down.l1, if_pos (show 0 ≤ (i : Int) by omega), if_pos (show (i : Int) < l.length by omega), rdl_getDn, hr, if_neg (show ¬ (j : Int) < (j : Int) by omega), inc hi (by omega), stair_end]
    exact hs
  | succ d ih =>
    intro j hd
    have hj : j < m := by omega
    apply Ev.succ
    simp only [spec_l05Down.l1, if_pos (show 0 ≤ (i : Int) by omega), if_pos (show (i : Int) < l.length by omega), rdl_getDn, hr, if_pos (show (j : Int) < (m : Int) by omega), if_pos (show 0 ≤ (j : Int) by omega), stair_length, rd_getDn, stair_get (dcol l) m i j j hj, if_neg (show ¬ j < j by omega), dcol_succ l i j hi, Int.toNat_natCast, stair_set (dcol l) m i j hj, inc hj (by omega)]
    exact ih (j + 1) (by omega)
theorem down_l0 (l : List (List Int)) (m : Nat) (hl : l.length ≤ 1048576) (hm : m ≤ 1048576) (hr : ∀ i, i < l.length → (l.getD i []).length = m) : ∀ (d i : Nat), d + i = l.length → Ev (fun k => spec_l05Down.l0 k l (stair (dcol l) m i 0) i) ((List.range m).map fun k => wsum 0 (colOf l k)) := by
  intro d
  induction d with
  | zero =>
    intro i hd
    apply Ev.succ
    simp only [spec_l05Down.l0, if_neg (show ¬ (i : Int) < (l.length : Int) by omega)]
    refine (Ev.now _).to ?_
    rw [stair_zero]
    refine List.map_congr_left fun k _ => ?_
    rw [dcol, List.take_of_length_le (by omega)]
  | succ d ih =>
    intro i hd
    have hi : i < l.length := by omega
    apply Ev.succ
    simp only [spec_l05Down.l0, if_pos (show (i : Int) < (l.length : Int) by omega)]
    exact down_l1 l m i hl hm hi (hr i hi) (ih (i + 1) (by omega)) m 0 (by omega)
theorem down_ev (l : List (List Int)) (hn : 1 ≤ l.length) (hl : l.length ≤ 1048576) (hm : (l.headD []).length ≤ 1048576) (hr : ∀ i, i < l.length → (l.getD i []).length = (l.headD []).length) : Ev (fun k => spec_l05Down.f k l) ((List.range (l.headD []).length).map fun k => wsum 0 (colOf l k)) := by
  unfold spec_l05Down.f
  simp only [if_pos (show 0 < (l.length : Int) by omega), rdl_headDn, if_pos (show 0 ≤ ((l.headD []).length : Int) by omega), Int.toNat_natCast, if_pos (show (l.headD []).length ≤ 35184372088832 by omega)]
  have := down_l0 l (l.headD []).length hl hm hr l.length 0 (by omega)
  rw [stair_zero] at this
  have e : (List.range (l.headD []).length).map (dcol l 0) = List.replicate (l.headD []).length 0 := by
    apply List.ext_getElem
    · simp
    · intro k h1 h2
      simp [dcol, colOf, wsum]
  rw [e] at this
  exact this

/-! spec.l00In -/
theorem in_eq (a b c : Int) : spec_l00In.f a b c = some (decide (b ≤ a ∧ a ≤ c)) := by
  unfold spec_l00In.f
  by_cases h : b ≤ a
  · rw [if_pos (show a ≥ b from h)]; simp [h]
  · rw [if_neg (show ¬ a ≥ b from h)]; simp [h]

/-! spec.l05Is -/
/-- A valid table. -/
def rowOk (n : Nat) (r : List Int) : Bool := decide (r.length = n) && r.all fun x => decide (0 ≤ x ∧ x ≤ 100000)
def VT (d : Int) (l : List (List Int)) : Bool := decide (1 ≤ d ∧ d ≤ 1000) && (decide (1 ≤ (l.length : Int) ∧ (l.length : Int) ≤ 5) && (decide (1 ≤ ((l.headD []).length : Int) ∧ ((l.headD []).length : Int) ≤ 5) && l.all (rowOk (l.headD []).length)))
theorem rdl_get4 {xs : List (List Int)} {i : Nat} (h : i < xs.length) : rd_L1 xs (i : Int) = xs[i] := by
  unfold rd_L1; exact getD_get h
theorem rdl_head (xs : List (List Int)) : rd_L1 xs 0 = xs.headD [] := by
  unfold rd_L1; cases xs <;> rfl
theorem side_eq (a : Int) : spec_l05Side.f a = some (decide (1 ≤ a ∧ a ≤ 5)) := by
  unfold spec_l05Side.f
  by_cases h : 1 ≤ a
  · rw [if_pos (show a ≥ 1 from h)]; simp [h]
  · rw [if_neg (show ¬ a ≥ 1 from h)]; simp [h]
theorem vt_l1 (d : Int) (l : List (List Int)) (i : Nat) (hi : i < l.length) (hm : (l[i]).length ≤ 1048576) {r : Bool} (hr : Ev (fun k => spec_l05Is.l0 k (wrap64 ((i : Int) + 1)) d l) r) : Ev (fun k => spec_l05Is.l1 k i 0 d l) (((l[i]).all fun x => decide (0 ≤ x ∧ x ≤ 100000)) && r) := by
  refine all_loop l[i] (fun x => decide (0 ≤ x ∧ x ≤ 100000)) (fun k j => spec_l05Is.l1 k i j d l) ?_ ?_ ?_
  · apply Ev.succ
    simp only [spec_l05Is.l1, if_pos (show 0 ≤ (i : Int) by omega), if_pos (show (i : Int) < (l.length : Int) by omega), rdl_get4 hi, if_neg (show ¬ ((l[i]).length : Int) < (l[i]).length by omega)]
    exact hr
  · intro j hj hp
    apply Ev.succ
    simp only [spec_l05Is.l1, if_pos (show 0 ≤ (i : Int) by omega), if_pos (show (i : Int) < (l.length : Int) by omega), rdl_get4 hi, if_pos (show (j : Int) < (l[i]).length by omega), if_pos (show 0 ≤ (j : Int) by omega), rd_get hj, in_eq, Option.bind_some, hp, Bool.false_eq_true, if_false]
    exact Ev.now _
  · intro j hj hp r hr
    apply Ev.succ
    simp only [spec_l05Is.l1, if_pos (show 0 ≤ (i : Int) by omega), if_pos (show (i : Int) < (l.length : Int) by omega), rdl_get4 hi, if_pos (show (j : Int) < (l[i]).length by omega), if_pos (show 0 ≤ (j : Int) by omega), rd_get hj, in_eq, Option.bind_some, hp, if_true, inc hj (by omega)]
    exact hr
theorem vt_l0 (d : Int) (l : List (List Int)) (hl : l.length ≤ 1048576) (hr : ∀ r ∈ l, r.length ≤ 1048576) : Ev (fun k => spec_l05Is.l0 k 0 d l) (l.all (rowOk (l.headD []).length)) := by
  refine (all_loop l (rowOk (l.headD []).length) (fun k j => spec_l05Is.l0 k j d l) (r := true) ?_ ?_ ?_).to (by rw [Bool.and_true])
  · apply Ev.succ
    simp only [spec_l05Is.l0, if_neg (show ¬ (l.length : Int) < l.length by omega)]
    exact Ev.now _
  · intro i hi hp
    apply Ev.succ
    simp only [spec_l05Is.l0, if_pos (show (i : Int) < (l.length : Int) by omega), if_pos (show 0 ≤ (i : Int) by omega), if_pos (show 0 < (l.length : Int) by omega), rdl_get4 hi, rdl_head]
    by_cases e : (l[i]).length = (l.headD []).length
    · simp only [if_pos (show ((l[i]).length : Int) = (l.headD []).length by omega)]
      simp only [rowOk, decide_eq_true e, Bool.true_and] at hp
      have hm := hr l[i] (List.getElem_mem hi)
      -- whatever stands behind it, the row itself says no
      refine all_no l[i] (L := fun k j => spec_l05Is.l1 k i j d l) (by omega) ?_ hp ?_
      · intro j hj hq
        apply Ev.succ
        simp only [spec_l05Is.l1, if_pos (show 0 ≤ (i : Int) by omega), if_pos (show (i : Int) < (l.length : Int) by omega), rdl_get4 hi, if_pos (show (j : Int) < (l[i]).length by omega), if_pos (show 0 ≤ (j : Int) by omega), rd_get hj, in_eq, Option.bind_some, hq, Bool.false_eq_true, if_false]
        exact Ev.now _
      · intro j hj hq r hr
        apply Ev.succ
        simp only [spec_l05Is.l1, if_pos (show 0 ≤ (i : Int) by omega), if_pos (show (i : Int) < (l.length : Int) by omega), rdl_get4 hi, if_pos (show (j : Int) < (l[i]).length by omega), if_pos (show 0 ≤ (j : Int) by omega), rd_get hj, in_eq, Option.bind_some, hq, if_true, inc hj (by omega)]
        exact hr
    · simp only [if_neg (show ¬ ((l[i]).length : Int) = (l.headD []).length by omega)]
      exact Ev.now _
  · intro i hi hp r hr'
    simp only [rowOk, Bool.and_eq_true, decide_eq_true_eq] at hp
    apply Ev.succ
    simp only [spec_l05Is.l0, if_pos (show (i : Int) < (l.length : Int) by omega), if_pos (show 0 ≤ (i : Int) by omega), if_pos (show 0 < (l.length : Int) by omega), rdl_get4 hi, rdl_head, if_pos (show ((l[i]).length : Int) = (l.headD []).length by omega)]
    refine (vt_l1 d l i hi (hr _ (List.getElem_mem hi)) (r := r) ?_).to (by rw [hp.2, Bool.true_and])
    rw [inc hi (by omega)]
    exact hr'
theorem l05Is_ev (d : Int) (l : List (List Int)) (hl : l.length ≤ 1048576) (hr : ∀ r ∈ l, r.length ≤ 1048576) : Ev (fun k => spec_l05Is.f k d l) (VT d l) := by
  unfold spec_l05Is.f VT
  simp only [in_eq, side_eq, Option.bind_some, rdl_head]
  by_cases h1 : 1 ≤ d ∧ d ≤ 1000
  · by_cases h2 : 1 ≤ (l.length : Int) ∧ (l.length : Int) ≤ 5
    · simp only [decide_eq_true h1, decide_eq_true h2, if_true, if_pos (show 0 < (l.length : Int) by omega), Bool.true_and]
      apply Ev.succ
      by_cases h3 : 1 ≤ ((l.headD []).length : Int) ∧ ((l.headD []).length : Int) ≤ 5
      · simp only [spec_l05Is.j0, decide_eq_true h3, Bool.not_true, Bool.false_eq_true, if_false, Bool.true_and]
        exact vt_l0 d l hl hr
      · simp only [spec_l05Is.j0, decide_eq_false h3, Bool.not_false, if_true, Bool.false_and]
        exact Ev.now _
    · simp only [decide_eq_true h1, decide_eq_false h2, if_true, Bool.false_eq_true, if_false, Bool.false_and, Bool.and_false]
      apply Ev.succ
      simp only [spec_l05Is.j0, if_true]
      exact Ev.now _
  · simp only [decide_eq_false h1, Bool.false_eq_true, if_false, Bool.false_and]
    apply Ev.succ
    simp only [spec_l05Is.j0, if_true]
    exact Ev.now _
theorem vt_facts {d : Int} {l : List (List Int)} (h : VT d l = true) : 1 ≤ l.length ∧ l.length ≤ 5 ∧ (l.headD []).length ≤ 5 ∧ ∀ i, i < l.length → (l.getD i []).length = (l.headD []).length := by
  simp only [VT, rowOk, Bool.and_eq_true, List.all_eq_true, decide_eq_true_iff] at h
  obtain ⟨_, h2, h3, h4⟩ := h
  refine ⟨by omega, by omega, by omega, fun i hi => ?_⟩
  have := h4 (l.getD i []) (by simp [List.getD_eq_getElem?_getD, hi])
  exact this.1

/-! spec.l05Margin -/
def MG (l : List Int) (n : Int) : Bool := (l.all fun x => decide (0 ≤ x ∧ x ≤ 1000000)) && decide ((l.length : Int) = n)
theorem margin_ev (l : List Int) (n : Int) (hl : l.length ≤ 9223372036854775806) : Ev (fun k => spec_l05Margin.f k l n) (MG l n) := by
  unfold spec_l05Margin.f MG
  refine all_loop l (fun x => decide (0 ≤ x ∧ x ≤ 1000000)) (fun k j => spec_l05Margin.l0 k l n j) ?_ ?_ ?_
  · apply Ev.succ
    simp only [spec_l05Margin.l0, if_neg (show ¬ (l.length : Int) < l.length by omega)]
    refine (Ev.now _).to ?_
    by_cases h : (l.length : Int) = n <;> simp [h]
  · intro j hj hp
    apply Ev.succ
    simp only [spec_l05Margin.l0, if_pos (show (j : Int) < l.length by omega), if_pos (show 0 ≤ (j : Int) by omega), rd_get hj, in_eq, Option.bind_some, hp, Bool.false_eq_true, if_false]
    exact Ev.now _
  · intro j hj hp r hr
    apply Ev.succ
    simp only [spec_l05Margin.l0, if_pos (show (j : Int) < l.length by omega), if_pos (show 0 ≤ (j : Int) by omega), rd_get hj, in_eq, Option.bind_some, hp, if_true, inc hj (by omega)]
    exact hr

/-! spec.l05Margins -/
theorem rdl_headMs (xs : List (List Int)) : rd_L1 xs 0 = xs.headD [] := by
  unfold rd_L1; cases xs <;> rfl
def MGS (d : Int) (T : List (List Int)) (a b : List Int) : Bool := VT d T && (MG a T.length && MG b (T.headD []).length)
theorem margins_ev (d : Int) (T : List (List Int)) (a b : List Int) (hl : T.length ≤ 1048576) (hr : ∀ r ∈ T, r.length ≤ 1048576) (ha : a.length ≤ 1048576) (hb : b.length ≤ 1048576) : Ev (fun k => spec_l05Margins.f k d T a b) (MGS d T a b) := by
  unfold spec_l05Margins.f MGS
  refine Ev.bind (l05Is_ev d T hl hr) ?_
  cases h : VT d T with
  | false =>
    simp only [Bool.false_eq_true, if_false, Bool.false_and]
    exact Ev.now _
  | true =>
    have f1 := (vt_facts h).1
    simp only [if_true, Bool.true_and]
    refine Ev.bind (margin_ev a _ (by omega)) ?_
    cases h2 : MG a T.length with
    | false =>
      simp only [Bool.false_eq_true, if_false, Bool.false_and]
      exact Ev.now _
    | true =>
      simp only [if_true, Bool.true_and, if_pos (show 0 < (T.length : Int) by omega), rdl_headMs]
      exact Ev.bind (margin_ev b _ (by omega)) (Ev.now _)

/-! spec.l01Floor -/
theorem tdiv_mul_range {a b m : Int} (hb : 0 < b) (h1 : -m ≤ a) (h2 : a ≤ m) : -m ≤ a.tdiv b * b ∧ a.tdiv b * b ≤ m := by
  have h := ediv_bounds (a := a) hb
  rcases tdiv_cases (a := a) hb with ⟨e, _, h3⟩ | ⟨e, _, h3, h4⟩
  · rw [e]
    rcases h3 with h3 | h3
    · have : 0 ≤ a / b * b := Int.mul_nonneg (Int.ediv_nonneg h3 (by omega)) (by omega)
      omega
    · have := Int.emod_add_mul_ediv a b
      have h5 : b * (a / b) = (a / b) * b := Int.mul_comm _ _
      omega
  · have h5 : (a / b + 1) * b = a / b * b + b := by rw [Int.add_mul, Int.one_mul]
    have h6 : a / b < 0 := Int.ediv_neg_of_neg_of_pos h3 hb
    have h7 : (a / b + 1) * b ≤ 0 * b := Int.mul_le_mul_of_nonneg_right (by omega) (by omega)
    rw [e]
    omega
theorem sfloor_eq {a b : Int} (hb : 0 < b) (h1 : -9223372036854775807 ≤ a) (h2 : a ≤ 9223372036854775807) : spec_l01Floor.f a b = some (a / b) := by
  have r1 := tdiv_range hb h1 h2 (by omega)
  have r2 := tdiv_mul_range hb h1 h2
  have hf := floorA (a := a) hb
  have e1 : wrap64 (a.tdiv b) = a.tdiv b := w64 (by omega) (by omega)
  have e2 : wrap64 (a.tdiv b * b) = a.tdiv b * b := w64 (by omega) (by omega)
  unfold spec_l01Floor.f
  rw [if_neg (by omega), e1, e2]
  by_cases h : a.tdiv b * b > a
  · rw [if_pos h] at hf
    rw [if_pos h, w64 (by omega) (by omega), hf]
  · rw [if_neg h] at hf
    rw [if_neg h, hf]

/-! spec.l01Ceil -/
/-- The least whole number that is not less than a fraction. -/
def ceilOf (a b : Int) : Int := -((-a) / b)
theorem ceil_range {a b m : Int} (hb : 0 < b) (h1 : -m ≤ a) (h2 : a ≤ m) (hm : 0 ≤ m) : -m ≤ (-a) / b ∧ (-a) / b ≤ m := by
  constructor
  · rw [Int.le_ediv_iff_mul_le hb]
    have : m * 1 ≤ m * b := Int.mul_le_mul_of_nonneg_left (by omega) hm
    have e : -m * b = -(m * b) := Int.neg_mul m b
    omega
  · by_cases h : 0 ≤ -a
    · exact Int.le_trans (Int.ediv_le_self b h) (by omega)
    · have := Int.ediv_neg_of_neg_of_pos (show -a < 0 by omega) hb
      omega
theorem ceil_eq {a b : Int} (hb : 0 < b) (hb2 : b ≤ 1000000) (h1 : -1000000000000 ≤ a) (h2 : a ≤ 1000000000000) : spec_l01Ceil.f a b = some (ceilOf a b) := by
  have hr := ceil_range (m := 1000000000000) hb h1 h2 (by omega)
  unfold spec_l01Ceil.f ceilOf
  rw [w64 (show (-9223372036854775808) ≤ -a by omega) (by omega), sfloor_eq hb (by omega) (by omega), Option.bind_some, w64 (by omega) (by omega)]

/-! spec.l05Round -/
/-- Is a number the floor or the ceiling of a fraction. -/
def isRound (n a b : Int) : Bool := decide (a / b ≤ n ∧ n ≤ ceilOf a b)
theorem ceil_floor {a b : Int} (hb : 0 < b) : a / b ≤ ceilOf a b ∧ ceilOf a b ≤ a / b + 1 := by
  unfold ceilOf
  have h1 := Int.emod_add_mul_ediv a b
  have h2 := Int.emod_nonneg a (show b ≠ 0 by omega)
  have h3 := Int.emod_lt_of_pos a hb
  have e : -a = -(a / b) * b + -(a % b) := by rw [Int.neg_mul]; rw [Int.mul_comm] at h1; omega
  have e2 : (-a) / b = -(a / b) + -(a % b) / b := by rw [e, Int.add_comm, Int.add_mul_ediv_right _ _ (show b ≠ 0 by omega), Int.add_comm]
  have l : -1 ≤ -(a % b) / b := by rw [Int.le_ediv_iff_mul_le hb]; omega
  have u : -(a % b) / b ≤ 0 := by
    by_cases z : a % b = 0
    · rw [z]; simp
    · have := Int.ediv_neg_of_neg_of_pos (show -(a % b) < 0 by omega) hb
      omega
  omega
theorem round_eq {n a b : Int} (hb : 0 < b) (hb2 : b ≤ 1000000) (h1 : -1000000000000 ≤ a) (h2 : a ≤ 1000000000000) : spec_l05Round.f n a b = some (isRound n a b) := by
  have hc := ceil_floor (a := a) hb
  unfold spec_l05Round.f isRound
  rw [sfloor_eq hb (by omega) (by omega), Option.bind_some, ceil_eq hb hb2 h1 h2, Option.bind_some]
  by_cases c : n = a / b
  · rw [if_pos c, decide_eq_true (by omega)]
  · rw [if_neg c]
    congr 1
    rw [Bool.eq_iff_iff, beq_iff_eq, decide_eq_true_iff]
    constructor <;> intro h <;> omega

/-! spec.l05Elements -/
theorem rdl_getE {xs : List (List Int)} {i : Nat} : rd_L1 xs (i : Int) = xs.getD i [] := by
  unfold rd_L1; simp
theorem rd_getE {xs : List Int} {i : Nat} : rd xs (i : Int) = xs.getD i 0 := by
  unfold rd; simp
def elRow (d : Int) (T X : List (List Int)) (i : Nat) : Bool := decide ((X.getD i []).length = (T.getD i []).length) && (List.range (X.getD i []).length).all fun j => isRound ((X.getD i []).getD j 0) ((T.getD i []).getD j 0) d
def EL (d : Int) (T X : List (List Int)) : Bool := decide (X.length = T.length) && (List.range X.length).all (elRow d T X)
theorem el_l1 (d : Int) (T X : List (List Int)) (i : Nat) (hd : 1 ≤ d ∧ d ≤ 1000) (hX : X.length ≤ 1048576) (hi : i < X.length) (hT : X.length = T.length) (hl : (X.getD i []).length = (T.getD i []).length) (hm : (X.getD i []).length ≤ 1048576) (hv : ∀ x ∈ T.getD i [], 0 ≤ x ∧ x ≤ 100000) {s : Bool} (hs : Ev (fun k => spec_l05Elements.l0 k X ((i : Int) + 1) d T) s) : Ev (fun k => spec_l05Elements.l1 k X i 0 d T) (((List.range (X.getD i []).length).all fun j => isRound ((X.getD i []).getD j 0) ((T.getD i []).getD j 0) d) && s) := by
  refine all_step (X.getD i []).length (fun j => isRound ((X.getD i []).getD j 0) ((T.getD i []).getD j 0) d) (fun k j => spec_l05Elements.l1 k X i j d T) ?_ ?_
  · apply Ev.succ
    simp only [spec_l05Elements.l1, if_pos (show 0 ≤ (i : Int) by omega), if_pos (show (i : Int) < X.length by omega), rdl_getE, if_neg (show ¬ ((X.getD i []).length : Int) < (X.getD i []).length by omega), inc hi (by omega)]
    exact hs
  · intro j hj q hq
    have hx := hv ((T.getD i []).getD j 0) (getD_mem (by omega))
    apply Ev.succ
    simp only [spec_l05Elements.l1, if_pos (show 0 ≤ (i : Int) by omega), if_pos (show (i : Int) < X.length by omega), rdl_getE, if_pos (show (j : Int) < (X.getD i []).length by omega), if_pos (show 0 ≤ (j : Int) by omega), if_pos (show (i : Int) < T.length by omega), if_pos (show (j : Int) < (T.getD i []).length by omega), rd_getE, round_eq (show 0 < d by omega) (by omega) (show -1000000000000 ≤ (T.getD i []).getD j 0 by omega) (by omega), Option.bind_some, inc hj (by omega)]
    cases isRound ((X.getD i []).getD j 0) ((T.getD i []).getD j 0) d with
    | true =>
      simp only [if_true, Bool.true_and]
      exact hq
    | false =>
      simp only [Bool.false_eq_true, if_false, Bool.false_and]
      exact Ev.now _
theorem elements_ev (d : Int) (T X : List (List Int)) (hd : 1 ≤ d ∧ d ≤ 1000) (hX : X.length ≤ 1048576) (hr : ∀ r ∈ X, r.length ≤ 1048576) (hv : ∀ i, i < T.length → ∀ x ∈ T.getD i [], 0 ≤ x ∧ x ≤ 100000) : Ev (fun k => spec_l05Elements.f k d T X) (EL d T X) := by
  unfold spec_l05Elements.f EL
  by_cases e : X.length = T.length
  · simp only [if_pos (show (X.length : Int) = T.length by omega), decide_eq_true e, Bool.true_and]
    have := all_step X.length (elRow d T X) (fun k i => spec_l05Elements.l0 k X i d T) (r := true) ?_ ?_
    · rw [Bool.and_true] at this
      exact this
    · apply Ev.succ
      simp only [spec_l05Elements.l0, if_neg (show ¬ (X.length : Int) < X.length by omega)]
      exact Ev.now _
    · intro i hi s hs
      have hm := hr (X.getD i []) (by simp [List.getD_eq_getElem?_getD, hi])
      apply Ev.succ
      simp only [spec_l05Elements.l0, if_pos (show (i : Int) < X.length by omega), if_pos (show 0 ≤ (i : Int) by omega), if_pos (show (i : Int) < T.length by omega), rdl_getE, elRow]
      by_cases c : (X.getD i []).length = (T.getD i []).length
      · simp only [if_pos (show ((X.getD i []).length : Int) = (T.getD i []).length by omega), decide_eq_true c, Bool.true_and]
        exact el_l1 d T X i hd hX hi e c hm (hv i (by omega)) hs
      · simp only [if_neg (show ¬ ((X.getD i []).length : Int) = (T.getD i []).length by omega), decide_eq_false c, Bool.false_and]
        exact Ev.now _
  · simp only [if_neg (show ¬ (X.length : Int) = T.length by omega), decide_eq_false e, Bool.false_and]
    exact Ev.now _

/-! spec.l00Same -/
theorem same_l0 (a b : List Int) (hl : a.length = b.length) (hm : a.length ≤ 9223372036854775806) : ∀ (d i : Nat), d + i = a.length → Ev (fun k => spec_l00Same.l0 k a b i) (decide (a.drop i = b.drop i)) := by
  intro d
  induction d with
  | zero =>
    intro i hd
    apply Ev.succ
    simp only [spec_l00Same.l0, if_neg (show ¬ (i : Int) < (a.length : Int) by omega)]
    rw [List.drop_of_length_le (by omega), List.drop_of_length_le (by omega)]
    exact Ev.now _
  | succ d ih =>
    intro i hd
    have hi : i < a.length := by omega
    have hi' : i < b.length := by omega
    apply Ev.succ
    simp only [spec_l00Same.l0, if_pos (show (i : Int) < (a.length : Int) by omega), if_pos (show 0 ≤ (i : Int) by omega), if_pos (show (i : Int) < (b.length : Int) by omega), rd_get hi, rd_get hi', w64 (show (-9223372036854775808) ≤ (i : Int) + 1 by omega) (by omega)]
    rw [List.drop_eq_getElem_cons hi, List.drop_eq_getElem_cons hi']
    by_cases h : a[i] = b[i]
    · simp only [if_pos h]
      exact (ih (i + 1) (by omega)).to (by simp only [List.cons.injEq, h, true_and])
    · simp only [if_neg h]
      exact (Ev.now _).to (by simp only [List.cons.injEq, h, false_and, decide_false])
theorem same_ev (a b : List Int) (hm : a.length ≤ 9223372036854775806) : Ev (fun k => spec_l00Same.f k a b) (decide (a = b)) := by
  unfold spec_l00Same.f
  by_cases h : a.length = b.length
  · simp only [if_pos (show (a.length : Int) = (b.length : Int) by omega)]
    simpa using same_l0 a b h hm a.length 0 (by omega)
  · simp only [if_neg (show ¬ (a.length : Int) = (b.length : Int) by omega)]
    exact (Ev.now _).to (by symm; simp; intro e; exact h (by rw [e]))

/-! impl.sum -/
theorem isum_l0 (l : List Int) (hl : l.length ≤ 9223372036854775806) : ∀ (d i : Nat) (acc : Int), d + i = l.length → Ev (fun k => impl_sum.l0 k acc l (l.length : Int) i) (wsum acc (l.drop i)) := by
  intro d
  induction d with
  | zero =>
    intro i acc hd
    apply Ev.succ
    simp only [impl_sum.l0, if_neg (show ¬ (i : Int) < (l.length : Int) by omega)]
    rw [List.drop_of_length_le (by omega)]
    exact Ev.now _
  | succ d ih =>
    intro i acc hd
    have hi : i < l.length := by omega
    apply Ev.succ
    simp only [impl_sum.l0, if_pos (show (i : Int) < (l.length : Int) by omega), if_pos (show 0 ≤ (i : Int) by omega), rd_get hi, w64 (show (-9223372036854775808) ≤ (i : Int) + 1 by omega) (by omega)]
    rw [List.drop_eq_getElem_cons hi]
    exact ih (i + 1) _ (by omega)
theorem isum_ev (l : List Int) (hl : l.length ≤ 9223372036854775806) : Ev (fun k => impl_sum.f k l) (wsum 0 l) := by
  have := isum_l0 l hl l.length 0 0 (by omega)
  simpa [impl_sum.f] using this

/-! impl.sums -/
theorem rdl_getS {xs : List (List Int)} {i : Nat} (h : i < xs.length) : rd_L1 xs (i : Int) = xs[i] := by
  unfold rd_L1; exact getD_get h
theorem sums_l0 (l : List (List Int)) (hl : l.length ≤ 1048576) (hr : ∀ r ∈ l, r.length ≤ 1048576) : ∀ (d i : Nat), d + i = l.length → Ev (fun k => impl_sums.l0 k ((l.take i).map (wsum 0)) l (l.length : Int) i) (l.map (wsum 0)) := by
  intro d
  induction d with
  | zero =>
    intro i hd
    apply Ev.succ
    simp only [impl_sums.l0, if_neg (show ¬ (i : Int) < (l.length : Int) by omega)]
    rw [List.take_of_length_le (by omega)]
    exact Ev.now _
  | succ d ih =>
    intro i hd
    have hi : i < l.length := by omega
    have hm := hr l[i] (List.getElem_mem hi)
    apply Ev.succ
    simp only [impl_sums.l0, if_pos (show (i : Int) < (l.length : Int) by omega), if_pos (show 0 ≤ (i : Int) by omega), rdl_getS hi, inc hi (by omega)]
    refine Ev.bind (isum_ev l[i] (by omega)) ?_
    simp only [if_pos (show ((l.take i).map (wsum 0)).length < 17592186044416 by simp; omega)]
    have := ih (i + 1) (by omega)
    rw [List.take_succ_eq_append_getElem hi, List.map_append] at this
    exact this
theorem sums_ev (l : List (List Int)) (hl : l.length ≤ 1048576) (hr : ∀ r ∈ l, r.length ≤ 1048576) : Ev (fun k => impl_sums.f k l) (l.map (wsum 0)) := by
  have := sums_l0 l hl hr l.length 0 (by omega)
  unfold impl_sums.f
  exact this

/-! impl.turned -/
theorem rdl_getT {xs : List (List Int)} {i : Nat} : rd_L1 xs (i : Int) = xs.getD i [] := by
  unfold rd_L1; simp
theorem rdl_headT (xs : List (List Int)) : rd_L1 xs 0 = xs.headD [] := by
  unfold rd_L1; cases xs <;> rfl
theorem rd_getDT {xs : List Int} {i : Nat} : rd xs (i : Int) = xs.getD i 0 := by
  unfold rd; simp
def tcol (l : List (List Int)) (i k : Nat) : List Int := colOf (l.take i) k
theorem turned_l1 (l : List (List Int)) (m i : Nat) (hl : l.length ≤ 1048576) (hm : m ≤ 1048576) (hi : i < l.length) (hr : (l.getD i []).length = m) {R : List (List Int)} (hs : Ev (fun k => impl_turned.l0 k (stair (tcol l) m (i + 1) 0) l (l.length : Int) ((i : Int) + 1)) R) : ∀ (d j : Nat), d + j = m → Ev (fun k => impl_turned.l1 k (stair (tcol l) m i j) l (l.length : Int) i (l.getD i []) (m : Int) j) R := by
  intro d
  induction d with
  | zero =>
    intro j hd
    apply Ev.succ
    have e : j = m := by omega
    subst e
    simp only [impl_turned.l1, if_neg (show ¬ (j : Int) < (j : Int) by omega), inc hi (by omega), stair_end]
    exact hs
  | succ d ih =>
    intro j hd
    have hj : j < m := by omega
    have hlen : (tcol l i j).length ≤ 1048576 := by simp [tcol, colOf]; omega
    apply Ev.succ
    simp only [impl_turned.l1, if_pos (show (j : Int) < (m : Int) by omega), if_pos (show 0 ≤ (j : Int) by omega), if_pos (show (j : Int) < (l.getD i []).length by omega), stair_length, rdl_getT, stair_get (tcol l) m i j j hj, if_neg (show ¬ j < j by omega), if_pos (show (tcol l i j).length < 17592186044416 by omega), inc hj (by omega), Int.toNat_natCast, rd_getDT]
    have e : tcol l i j ++ [(l.getD i []).getD j 0] = tcol l (i + 1) j := (colOf_succ l i j hi).symm
    rw [e, stair_set (tcol l) m i j hj]
    exact ih (j + 1) (by omega)
theorem turned_l0 (l : List (List Int)) (m : Nat) (hl : l.length ≤ 1048576) (hm : m ≤ 1048576) (hr : ∀ i, i < l.length → (l.getD i []).length = m) : ∀ (d i : Nat), d + i = l.length → Ev (fun k => impl_turned.l0 k (stair (tcol l) m i 0) l (l.length : Int) i) ((List.range m).map (colOf l)) := by
  intro d
  induction d with
  | zero =>
    intro i hd
    apply Ev.succ
    simp only [impl_turned.l0, if_neg (show ¬ (i : Int) < (l.length : Int) by omega)]
    refine (Ev.now _).to ?_
    rw [stair_zero]
    refine List.map_congr_left fun k _ => ?_
    rw [tcol, List.take_of_length_le (by omega)]
  | succ d ih =>
    intro i hd
    have hi : i < l.length := by omega
    apply Ev.succ
    simp only [impl_turned.l0, if_pos (show (i : Int) < (l.length : Int) by omega), if_pos (show 0 ≤ (i : Int) by omega), rdl_getT, hr i hi]
    exact turned_l1 l m i hl hm hi (hr i hi) (ih (i + 1) (by omega)) m 0 (by omega)
theorem turned_ev (l : List (List Int)) (hn : 1 ≤ l.length) (hl : l.length ≤ 1048576) (hm : (l.headD []).length ≤ 1048576) (hr : ∀ i, i < l.length → (l.getD i []).length = (l.headD []).length) : Ev (fun k => impl_turned.f k l) ((List.range (l.headD []).length).map (colOf l)) := by
  unfold impl_turned.f
  simp only [if_pos (show 0 < (l.length : Int) by omega), rdl_headT, if_pos (show 0 ≤ ((l.headD []).length : Int) by omega), Int.toNat_natCast, if_pos (show (l.headD []).length ≤ 11728124029610 by omega)]
  have := turned_l0 l (l.headD []).length hl hm hr l.length 0 (by omega)
  rw [stair_zero] at this
  have e : (List.range (l.headD []).length).map (tcol l 0) = List.replicate (l.headD []).length [] := by
    apply List.ext_getElem
    · simp
    · intro k h1 h2
      simp [tcol, colOf]
  rw [e] at this
  exact this

/-! impl.within -/
theorem within_eq (a b c : Int) : impl_within.f a b c = some (decide (b ≤ a ∧ a ≤ c)) := by
  unfold impl_within.f
  by_cases h : b ≤ a
  · rw [if_pos h]; simp [h]
  · rw [if_neg h]; simp [h]

/-! impl.span).has -/
theorem has_eq (a b n : Int) : impl_span_has.f a b n = some (decide (a ≤ n ∧ n ≤ b)) := by
  unfold impl_span_has.f
  rw [within_eq, Option.bind_some]

/-! impl.floor -/
theorem ifloor_eq {a b : Int} (hb : 0 < b) (h1 : -9223372036854775807 ≤ a) (h2 : a ≤ 9223372036854775807) : impl_floor.f a b = some (a / b) := by
  have r1 := tdiv_range hb h1 h2 (by omega)
  have hf := floorB (a := a) hb
  have e1 : wrap64 (a.tdiv b) = a.tdiv b := w64 (by omega) (by omega)
  unfold impl_floor.f
  rw [if_neg (by omega), e1]
  by_cases h : a.tmod b < 0
  · rw [if_pos h] at hf
    rw [if_pos h, w64 (by omega) (by omega), hf]
  · rw [if_neg h] at hf
    rw [if_neg h, hf]

/-! impl.ceiling -/
theorem iceil_eq {a b : Int} (hb : 0 < b) (h1 : -1000000000000 ≤ a) (h2 : a ≤ 1000000000000) : impl_ceiling.f a b = some (ceilOf a b) := by
  have hr := ceil_range (m := 1000000000000) hb h1 h2 (by omega)
  unfold impl_ceiling.f ceilOf
  rw [w64 (show (-9223372036854775808) ≤ -a by omega) (by omega), ifloor_eq hb (by omega) (by omega), Option.bind_some, w64 (by omega) (by omega)]

/-! impl.Table).around -/
theorem around_eq {d n : Int} (T : List (List Int)) (hd : 1 ≤ d ∧ d ≤ 1000) (h1 : -1000000000000 ≤ n) (h2 : n ≤ 1000000000000) : impl_Table_around.f d T n = some (n / d, ceilOf n d) := by
  unfold impl_Table_around.f
  rw [ifloor_eq (by omega) (by omega) (by omega), Option.bind_some, iceil_eq (by omega) h1 h2, Option.bind_some]

/-! impl.Table).spansOf -/
def SPN (d n : Int) : S64 := ⟨n / d, ceilOf n d⟩
theorem spans_l0 (d : Int) (T : List (List Int)) (l : List Int) (hd : 1 ≤ d ∧ d ≤ 1000) (hl : l.length ≤ 1048576) (hv : ∀ x ∈ l, 0 ≤ x ∧ x ≤ 10000000) : ∀ (e i : Nat), e + i = l.length → Ev (fun k => impl_Table_spansOf.l0 k ((l.take i).map (SPN d)) l (l.length : Int) i d T) (l.map (SPN d)) := by
  intro e
  induction e with
  | zero =>
    intro i he
    apply Ev.succ
    simp only [impl_Table_spansOf.l0, if_neg (show ¬ (i : Int) < (l.length : Int) by omega)]
    rw [List.take_of_length_le (by omega)]
    exact Ev.now _
  | succ e ih =>
    intro i he
    have hi : i < l.length := by omega
    have hx := hv l[i] (List.getElem_mem hi)
    have := ih (i + 1) (by omega)
    rw [List.take_succ_eq_append_getElem hi, List.map_append] at this
    apply Ev.succ
    simp only [impl_Table_spansOf.l0, if_pos (show (i : Int) < (l.length : Int) by omega), if_pos (show 0 ≤ (i : Int) by omega), rd_get hi, around_eq T hd (show -1000000000000 ≤ l[i] by omega) (by omega), Option.bind_some, if_pos (show ((l.take i).map (SPN d)).length < 8796093022208 by simp; omega), inc hi (by omega)]
    exact this
theorem spans_ev (d : Int) (T : List (List Int)) (l : List Int) (hd : 1 ≤ d ∧ d ≤ 1000) (hl : l.length ≤ 1048576) (hv : ∀ x ∈ l, 0 ≤ x ∧ x ≤ 10000000) : Ev (fun k => impl_Table_spansOf.f k d T l) (l.map (SPN d)) := by
  have := spans_l0 d T l hd hl hv l.length 0 (by omega)
  unfold impl_Table_spansOf.f
  exact this

/-! impl.Table).limits -/
theorem rdl_getL {xs : List (List Int)} {i : Nat} (h : i < xs.length) : rd_L1 xs (i : Int) = xs[i] := by
  unfold rd_L1; exact getD_get h
theorem limits_l0 (d : Int) (T : List (List Int)) (R C : List S64) (a b : Int) (hd : 1 ≤ d ∧ d ≤ 1000) (hn : T.length ≤ 5) (hr : ∀ r ∈ T, r.length ≤ 1048576 ∧ ∀ x ∈ r, 0 ≤ x ∧ x ≤ 100000) : ∀ (e i : Nat), e + i = T.length → Ev (fun k => impl_Table_limits.l0 k T (T.length : Int) i d T ((T.take i).map fun r => r.map (SPN d)) R C a b) (T.map fun r => r.map (SPN d), R, C, a, b) := by
  intro e
  induction e with
  | zero =>
    intro i he
    apply Ev.succ
    simp only [impl_Table_limits.l0, if_neg (show ¬ (i : Int) < (T.length : Int) by omega)]
    rw [List.take_of_length_le (by omega)]
    exact Ev.now _
  | succ e ih =>
    intro i he
    have hi : i < T.length := by omega
    have hx := hr T[i] (List.getElem_mem hi)
    have := ih (i + 1) (by omega)
    rw [List.take_succ_eq_append_getElem hi, List.map_append] at this
    apply Ev.succ
    simp only [impl_Table_limits.l0, if_pos (show (i : Int) < (T.length : Int) by omega), if_pos (show 0 ≤ (i : Int) by omega), rdl_getL hi]
    refine Ev.bind (spans_ev d T T[i] hd hx.1 (fun x h => by have := hx.2 x h; omega)) ?_
    simp only [if_pos (show ((T.take i).map fun r => r.map (SPN d)).length < 5864062014805 by simp; omega), inc hi (by omega)]
    exact this
/-- The limits of a table. -/
def LIM (d : Int) (T : List (List Int)) : List (List S64) × List S64 × List S64 × Int × Int := (T.map fun r => r.map (SPN d), (T.map (wsum 0)).map (SPN d), ((List.range (T.headD []).length).map fun k => wsum 0 (colOf T k)).map (SPN d), wsum 0 (T.map (wsum 0)) / d, ceilOf (wsum 0 (T.map (wsum 0))) d)
theorem limits_ev (d : Int) (T : List (List Int)) (hd : 1 ≤ d ∧ d ≤ 1000) (hn1 : 1 ≤ T.length) (hn : T.length ≤ 5) (hm5 : (T.headD []).length ≤ 5) (hm : ∀ i, i < T.length → (T.getD i []).length = (T.headD []).length) (hv : ∀ i, i < T.length → ∀ x ∈ T.getD i [], 0 ≤ x ∧ x ≤ 100000) (hrT : ∀ r ∈ T, r.length ≤ 1048576) : Ev (fun k => impl_Table_limits.f k d T) (LIM d T) := by
  have hT := rows_bnd T (fun i hi => by rw [hm i hi]; exact hm5) hv
  have hb := wsum_bnd (n := 5) hT (by omega) (by simp; exact hn) (by omega)
  unfold impl_Table_limits.f LIM
  refine Ev.bind (sums_ev T (by omega) hrT) (Ev.bind (spans_ev d T _ hd (by rw [List.length_map]; omega) (fun x hx => by have := hT x hx; omega)) (Ev.bind (turned_ev T hn1 (by omega) (by omega) hm) (Ev.bind (sums_ev _ (by rw [List.length_map, List.length_range]; omega) (fun r hr' => ?_)) ?_)))
  · obtain ⟨k, _, rfl⟩ := List.mem_map.1 hr'
    simp [colOf]; omega
  · rw [List.map_map]
    refine Ev.bind (spans_ev d T _ hd (by rw [List.length_map, List.length_range]; omega) (fun x hx => ?_)) (Ev.bind (isum_ev _ (by rw [List.length_map]; omega)) ?_)
    · obtain ⟨k, hk, rfl⟩ := List.mem_map.1 hx
      have := col_bnd T hn hv k (fun i hi => by rw [hm i hi]; exact List.mem_range.1 hk)
      simp only [Function.comp]
      omega
    · simp only [around_eq T hd (show -1000000000000 ≤ wsum 0 (T.map (wsum 0)) by omega) (by omega), Option.bind_some]
      have := limits_l0 d T ((T.map (wsum 0)).map (SPN d)) (((List.range (T.headD []).length).map (wsum 0 ∘ colOf T)).map (SPN d)) (wsum 0 (T.map (wsum 0)) / d) (ceilOf (wsum 0 (T.map (wsum 0))) d) hd hn (fun r hr' => ?_) T.length 0 (by omega)
      · exact this
      · refine ⟨hrT r hr', ?_⟩
        obtain ⟨i, hi, rfl⟩ := List.getElem_of_mem hr'
        have := hv i hi
        rwa [show T.getD i [] = T[i] by simp [List.getD_eq_getElem?_getD, hi]] at this

/-! impl.limits).holds -/
theorem rdl_getH {xs : List (List Int)} {i : Nat} : rd_L1 xs (i : Int) = xs.getD i [] := by
  unfold rd_L1; simp
theorem rd_getH {xs : List Int} {i : Nat} : rd xs (i : Int) = xs.getD i 0 := by
  unfold rd; simp
theorem rdt_map (d : Int) {l : List Int} {i : Nat} (h : i < l.length) : rd_T64 (l.map (SPN d)) (i : Int) = SPN d (l.getD i 0) := by
  unfold rd_T64; simp [List.getD_eq_getElem?_getD, h]
theorem rdl3_map (d : Int) {T : List (List Int)} {i : Nat} (h : i < T.length) : rd_L3 (T.map fun r => r.map (SPN d)) (i : Int) = (T.getD i []).map (SPN d) := by
  unfold rd_L3; simp [List.getD_eq_getElem?_getD, h]
/-- Is a number in a span. -/
def isIn (s : S64) (n : Int) : Bool := decide (s.f0 ≤ n ∧ n ≤ s.f1)
def hRowG (d : Int) (T X : List (List Int)) (R : List S64) (m i : Nat) : Bool := decide ((X.getD i []).length = m) && (isIn (rd_T64 R (i : Int)) (wsum 0 (X.getD i [])) && (List.range (X.getD i []).length).all fun j => isRound ((X.getD i []).getD j 0) ((T.getD i []).getD j 0) d)
def rCG (X : List (List Int)) (C : List S64) (a b : Int) : Bool := (List.range C.length).all (fun k => isIn (rd_T64 C (k : Int)) (wsum 0 (colOf X k))) && decide (a ≤ wsum 0 (X.map (wsum 0)) ∧ wsum 0 (X.map (wsum 0)) ≤ b)
def HOLDS (d : Int) (T X : List (List Int)) (R C : List S64) (a b : Int) : Bool := decide (X.length = R.length) && ((List.range X.length).all (hRowG d T X R C.length) && rCG X C a b)
def CELLS (d : Int) (T : List (List Int)) : List (List S64) := T.map fun r => r.map (SPN d)
theorem holdsG_l2 (d : Int) (T X : List (List Int)) (R C : List S64) (a b : Int) (hX : X.length ≤ 1048576) (hr : ∀ r ∈ X, r.length ≤ 1048576) (hm5 : C.length ≤ 5) : Ev (fun k => impl_limits_holds.l2 k X ((List.range C.length).map fun k => wsum 0 (colOf X k)) (((List.range C.length).map fun k => wsum 0 (colOf X k)).length : Int) 0 (CELLS d T) R C a b) (rCG X C a b) := by
  refine all_step C.length (fun k => isIn (rd_T64 C (k : Int)) (wsum 0 (colOf X k))) (fun k i => impl_limits_holds.l2 k X ((List.range C.length).map fun k => wsum 0 (colOf X k)) (((List.range C.length).map fun k => wsum 0 (colOf X k)).length : Int) i (CELLS d T) R C a b) ?_ ?_
  · apply Ev.succ
    simp only [impl_limits_holds.l2, List.length_map, List.length_range, if_neg (show ¬ (C.length : Int) < C.length by omega)]
    refine Ev.bind (sums_ev X hX hr) (Ev.bind (isum_ev _ (by rw [List.length_map]; omega)) ?_)
    simp only [has_eq, Option.bind_some]
    exact Ev.now _
  · intro i hi s hs
    simp only [List.length_map, List.length_range] at hs
    apply Ev.succ
    simp only [impl_limits_holds.l2, List.length_map, List.length_range, if_pos (show (i : Int) < C.length by omega), if_pos (show 0 ≤ (i : Int) by omega), rd_getH, getD_range _ _ hi, has_eq, Option.bind_some, inc hi (by omega)]
    have e : decide ((rd_T64 C (i : Int)).f0 ≤ wsum 0 (colOf X i) ∧ wsum 0 (colOf X i) ≤ (rd_T64 C (i : Int)).f1) = isIn (rd_T64 C (i : Int)) (wsum 0 (colOf X i)) := rfl
    rw [e]
    cases isIn (rd_T64 C (i : Int)) (wsum 0 (colOf X i)) with
    | true =>
      simp only [if_true, Bool.true_and]
      exact hs
    | false =>
      simp only [Bool.false_eq_true, if_false, Bool.false_and]
      exact Ev.now _
theorem holdsG_l1 (d : Int) (T X : List (List Int)) (R C : List S64) (a b : Int) (i : Nat) (hX : X.length ≤ 1048576) (hi : i < X.length) (hT : X.length = T.length) (hl : (X.getD i []).length = (T.getD i []).length) (hm : (X.getD i []).length ≤ 1048576) {s : Bool} (hs : ((List.range (X.getD i []).length).all fun j => isRound ((X.getD i []).getD j 0) ((T.getD i []).getD j 0) d) = true → Ev (fun k => impl_limits_holds.l0 k X X (X.length : Int) ((i : Int) + 1) (CELLS d T) R C a b) s) : Ev (fun k => impl_limits_holds.l1 k X i X (X.length : Int) i (X.getD i []) ((X.getD i []).length : Int) 0 (CELLS d T) R C a b) (if ((List.range (X.getD i []).length).all fun j => isRound ((X.getD i []).getD j 0) ((T.getD i []).getD j 0) d) then s else false) := by
  have h3 : rd_L3 (CELLS d T) (i : Int) = (T.getD i []).map (SPN d) := rdl3_map d (by omega)
  have h4 : (CELLS d T).length = T.length := by simp [CELLS]
  have e : ∀ j, decide ((T.getD i []).getD j 0 / d ≤ (X.getD i []).getD j 0 ∧ (X.getD i []).getD j 0 ≤ ceilOf ((T.getD i []).getD j 0) d) = isRound ((X.getD i []).getD j 0) ((T.getD i []).getD j 0) d := fun _ => rfl
  refine loopC (X.getD i []).length (fun j => isRound ((X.getD i []).getD j 0) ((T.getD i []).getD j 0) d) (fun k j => impl_limits_holds.l1 k X i X (X.length : Int) i (X.getD i []) ((X.getD i []).length : Int) j (CELLS d T) R C a b) ?_ ?_ ?_
  · intro hall
    apply Ev.succ
    simp only [impl_limits_holds.l1, if_neg (show ¬ ((X.getD i []).length : Int) < (X.getD i []).length by omega), inc hi (by omega)]
    exact hs hall
  · intro j hj hp
    apply Ev.succ
    simp only [impl_limits_holds.l1, if_pos (show (j : Int) < (X.getD i []).length by omega), if_pos (show 0 ≤ (j : Int) by omega), if_pos (show 0 ≤ (i : Int) by omega), h4, if_pos (show (i : Int) < T.length by omega), h3, List.length_map, if_pos (show (j : Int) < (T.getD i []).length by omega), rdt_map d (show j < (T.getD i []).length by omega), SPN, rd_getH, has_eq, Option.bind_some, e, hp, Bool.false_eq_true, if_false]
    exact Ev.now _
  · intro j hj hp q hq
    apply Ev.succ
    simp only [impl_limits_holds.l1, if_pos (show (j : Int) < (X.getD i []).length by omega), if_pos (show 0 ≤ (j : Int) by omega), if_pos (show 0 ≤ (i : Int) by omega), h4, if_pos (show (i : Int) < T.length by omega), h3, List.length_map, if_pos (show (j : Int) < (T.getD i []).length by omega), rdt_map d (show j < (T.getD i []).length by omega), SPN, rd_getH, has_eq, Option.bind_some, e, hp, if_true, inc hj (by omega)]
    exact hq
theorem holdsG_l0 (d : Int) (T X : List (List Int)) (R C : List S64) (a b : Int) (hX : X.length ≤ 1048576) (hr : ∀ r ∈ X, r.length ≤ 1048576) (hn1 : 1 ≤ T.length) (hT : X.length = T.length) (hR : R.length = T.length) (hm5 : C.length ≤ 5) (hm : ∀ i, i < T.length → (T.getD i []).length = C.length) : Ev (fun k => impl_limits_holds.l0 k X X (X.length : Int) 0 (CELLS d T) R C a b) ((List.range X.length).all (hRowG d T X R C.length) && rCG X C a b) := by
  have key := loopC X.length (hRowG d T X R C.length) (fun k i => impl_limits_holds.l0 k X X (X.length : Int) i (CELLS d T) R C a b) (r := rCG X C a b) (bad := false) ?_ ?_ ?_
  · refine key.to ?_
    cases (List.range X.length).all (hRowG d T X R C.length) <;> simp
  · intro hall
    have hrow : ∀ i, i < X.length → (X.getD i []).length = C.length := by
      intro i hi
      have := List.all_eq_true.1 hall i (List.mem_range.2 hi)
      simp only [hRowG, Bool.and_eq_true, decide_eq_true_eq] at this
      exact this.1
    have hx0 : (X.headD []).length = C.length := by
      have := hrow 0 (by omega)
      rwa [show X.getD 0 [] = X.headD [] by cases X <;> rfl] at this
    have ht := turned_ev X (by omega) hX (by omega) (fun i hi => by rw [hx0]; exact hrow i hi)
    rw [hx0] at ht
    apply Ev.succ
    simp only [impl_limits_holds.l0, if_neg (show ¬ (X.length : Int) < X.length by omega)]
    refine Ev.bind ht (Ev.bind (sums_ev _ (by rw [List.length_map, List.length_range]; omega) (fun r hr' => ?_)) ?_)
    · obtain ⟨k, _, rfl⟩ := List.mem_map.1 hr'
      simp [colOf]; omega
    · rw [List.map_map]
      exact holdsG_l2 d T X R C a b hX hr hm5
  · intro i hi hp
    have h5 := hr (X.getD i []) (getD_mem hi)
    apply Ev.succ
    simp only [impl_limits_holds.l0, if_pos (show (i : Int) < X.length by omega), if_pos (show 0 ≤ (i : Int) by omega), rdl_getH]
    by_cases c : (X.getD i []).length = C.length
    · simp only [if_pos (show ((X.getD i []).length : Int) = C.length by omega), if_pos (show (i : Int) < R.length by omega)]
      refine Ev.bind (isum_ev _ (by omega)) ?_
      simp only [has_eq, Option.bind_some]
      have e : decide ((rd_T64 R (i : Int)).f0 ≤ wsum 0 (X.getD i []) ∧ wsum 0 (X.getD i []) ≤ (rd_T64 R (i : Int)).f1) = isIn (rd_T64 R (i : Int)) (wsum 0 (X.getD i [])) := rfl
      rw [e]
      apply Ev.succ
      cases hb : isIn (rd_T64 R (i : Int)) (wsum 0 (X.getD i [])) with
      | false =>
        simp only [impl_limits_holds.j1, Bool.not_false, if_true]
        exact Ev.now _
      | true =>
        simp only [impl_limits_holds.j1, Bool.not_true, Bool.false_eq_true, if_false]
        have hp2 : ((List.range (X.getD i []).length).all fun j => isRound ((X.getD i []).getD j 0) ((T.getD i []).getD j 0) d) = false := by
          simpa only [hRowG, decide_eq_true c, hb, Bool.true_and] using hp
        have := holdsG_l1 d T X R C a b i hX hi hT (by rw [c, hm i (by omega)]) h5 (s := false) (fun h => by rw [hp2] at h; cases h)
        rw [hp2] at this
        exact this
    · simp only [if_neg (show ¬ ((X.getD i []).length : Int) = C.length by omega)]
      apply Ev.succ
      simp only [impl_limits_holds.j1, if_true]
      exact Ev.now _
  · intro i hi hp s hs
    have h5 := hr (X.getD i []) (getD_mem hi)
    simp only [hRowG, Bool.and_eq_true, decide_eq_true_eq] at hp
    obtain ⟨c, hb, hp2⟩ := hp
    have e : decide ((rd_T64 R (i : Int)).f0 ≤ wsum 0 (X.getD i []) ∧ wsum 0 (X.getD i []) ≤ (rd_T64 R (i : Int)).f1) = isIn (rd_T64 R (i : Int)) (wsum 0 (X.getD i [])) := rfl
    apply Ev.succ
    simp only [impl_limits_holds.l0, if_pos (show (i : Int) < X.length by omega), if_pos (show 0 ≤ (i : Int) by omega), rdl_getH, if_pos (show ((X.getD i []).length : Int) = C.length by omega), if_pos (show (i : Int) < R.length by omega)]
    refine Ev.bind (isum_ev _ (by omega)) ?_
    simp only [has_eq, Option.bind_some, e, hb, Bool.not_true]
    apply Ev.succ
    simp only [impl_limits_holds.j1, Bool.false_eq_true, if_false]
    have := holdsG_l1 d T X R C a b i hX hi hT (by rw [c, hm i (by omega)]) h5 (s := s) (fun _ => hs)
    rw [hp2] at this
    exact this
theorem holds_ev (d : Int) (T X : List (List Int)) (R C : List S64) (a b : Int) (hX : X.length ≤ 1048576) (hr : ∀ r ∈ X, r.length ≤ 1048576) (hn1 : 1 ≤ T.length) (hR : R.length = T.length) (hn5 : T.length ≤ 1048576) (hm5 : C.length ≤ 5) (hm : ∀ i, i < T.length → (T.getD i []).length = C.length) : Ev (fun k => impl_limits_holds.f k (CELLS d T) R C a b X) (HOLDS d T X R C a b) := by
  unfold impl_limits_holds.f HOLDS
  by_cases e : X.length = R.length
  · simp only [if_pos (show (X.length : Int) = R.length by omega), decide_eq_true e, Bool.true_and]
    exact holdsG_l0 d T X R C a b hX hr hn1 (by omega) hR hm5 hm
  · simp only [if_neg (show ¬ (X.length : Int) = R.length by omega), decide_eq_false e, Bool.false_and]
    exact Ev.now _

/-! impl.areWithin -/
theorem aw_l0 (l : List Int) (a b : Int) (hl : l.length ≤ 9223372036854775806) : ∀ (d i : Nat), d + i = l.length → ∃ r : Int, Ev (fun k => slices_IndexFunc_int64_int64_impl_areWithin_1.l0 k l (l.length : Int) i a b) r ∧ (decide (r ≥ 0) = !(l.drop i).all fun n => decide (a ≤ n ∧ n ≤ b)) := by
  intro d
  induction d with
  | zero =>
    intro i hd
    refine ⟨-1, ?_, ?_⟩
    · apply Ev.succ
      simp only [slices_IndexFunc_int64_int64_impl_areWithin_1.l0, if_neg (show ¬ (i : Int) < (l.length : Int) by omega)]
      exact Ev.now _
    · rw [List.drop_of_length_le (by omega)]; rfl
  | succ d ih =>
    intro i hd
    have hi : i < l.length := by omega
    obtain ⟨r, hr, he⟩ := ih (i + 1) (by omega)
    by_cases h : a ≤ l[i] ∧ l[i] ≤ b
    · refine ⟨r, ?_, ?_⟩
      · apply Ev.succ
        simp only [slices_IndexFunc_int64_int64_impl_areWithin_1.l0, if_pos (show (i : Int) < (l.length : Int) by omega), if_pos (show 0 ≤ (i : Int) by omega), rd_get hi, impl_areWithin_1.f, within_eq, decide_eq_true h, Option.bind_some, w64 (show (-9223372036854775808) ≤ (i : Int) + 1 by omega) (by omega)]
        simpa using hr
      · rw [he, List.drop_eq_getElem_cons hi, List.all_cons, decide_eq_true h, Bool.true_and]
    · refine ⟨i, ?_, ?_⟩
      · apply Ev.succ
        simp only [slices_IndexFunc_int64_int64_impl_areWithin_1.l0, if_pos (show (i : Int) < (l.length : Int) by omega), if_pos (show 0 ≤ (i : Int) by omega), rd_get hi, impl_areWithin_1.f, within_eq, decide_eq_false h, Option.bind_some]
        simpa using Ev.now _
      · rw [List.drop_eq_getElem_cons hi, List.all_cons, decide_eq_false h, Bool.false_and]; simp
theorem areWithin_ev (l : List Int) (a b : Int) (hl : l.length ≤ 9223372036854775806) : Ev (fun k => impl_areWithin.f k l a b) (l.all fun n => decide (a ≤ n ∧ n ≤ b)) := by
  obtain ⟨r, hr, he⟩ := aw_l0 l a b hl l.length 0 (by omega)
  unfold impl_areWithin.f
  simp only [slices_ContainsFunc_int64_int64_impl_areWithin_1.f, slices_IndexFunc_int64_int64_impl_areWithin_1.f]
  refine Ev.bind (Ev.bind hr (Ev.now _)) ?_
  refine (Ev.now _).to ?_
  rw [he, List.drop_zero, Bool.not_not]

/-! impl.ValidTable -/
def irowOk (n : Nat) (r : List Int) : Bool := decide (r.length = n) && r.all fun x => decide (0 ≤ x ∧ x ≤ 100000)
def iVT (d : Int) (l : List (List Int)) : Bool := decide (1 ≤ d ∧ d ≤ 1000) && (decide (1 ≤ (l.length : Int) ∧ (l.length : Int) ≤ 5) && (decide (1 ≤ ((l.headD []).length : Int) ∧ ((l.headD []).length : Int) ≤ 5) && l.all (irowOk (l.headD []).length)))
theorem rdl_get5 {xs : List (List Int)} {i : Nat} (h : i < xs.length) : rd_L1 xs (i : Int) = xs[i] := by
  unfold rd_L1; exact getD_get h
theorem rdl_head5 (xs : List (List Int)) : rd_L1 xs 0 = xs.headD [] := by
  unfold rd_L1; cases xs <;> rfl
theorem vt1_ev (r : List Int) (d : Int) (l : List (List Int)) (hp : 0 < l.length) (hr : r.length ≤ 1048576) : Ev (fun k => impl_ValidTable_1.f k r d l) (!irowOk (l.headD []).length r) := by
  unfold impl_ValidTable_1.f irowOk
  simp only [if_pos (show 0 < (l.length : Int) by omega), rdl_head5]
  by_cases e : r.length = (l.headD []).length
  · simp only [if_pos (show (r.length : Int) = (l.headD []).length by omega), decide_eq_true e, Bool.true_and]
    exact Ev.bind (areWithin_ev r 0 100000 (by omega)) (Ev.now _)
  · simp only [if_neg (show ¬ (r.length : Int) = (l.headD []).length by omega), decide_eq_false e, Bool.false_and, Bool.not_false]
    exact Ev.now _
theorem iVT_ev (d : Int) (l : List (List Int)) (hl : l.length ≤ 1048576) (hr : ∀ r ∈ l, r.length ≤ 1048576) : Ev (fun k => impl_ValidTable.f k d l) (iVT d l) := by
  unfold impl_ValidTable.f iVT
  simp only [within_eq, impl_size_int64_68.f, impl_size_int64_67.f, Option.bind_some, rdl_head5]
  by_cases h1 : 1 ≤ d ∧ d ≤ 1000
  · by_cases h2 : 1 ≤ (l.length : Int) ∧ (l.length : Int) ≤ 5
    · simp only [decide_eq_true h1, decide_eq_true h2, if_true, if_pos (show 0 < (l.length : Int) by omega), Bool.true_and]
      by_cases h3 : 1 ≤ ((l.headD []).length : Int) ∧ ((l.headD []).length : Int) ≤ 5
      · simp only [decide_eq_true h3, if_true, Bool.true_and]
        obtain ⟨r, hr1, hr2⟩ := find_loop l (fun x => !irowOk (l.headD []).length x) (fun k j => slices_IndexFunc_int64_int64_impl_ValidTable_1.l0 k l (l.length : Int) j d l)
          (by
            apply Ev.succ
            simp only [slices_IndexFunc_int64_int64_impl_ValidTable_1.l0, if_neg (show ¬ (l.length : Int) < l.length by omega)]
            exact Ev.now _)
          (fun i hi hp => by
            apply Ev.succ
            simp only [slices_IndexFunc_int64_int64_impl_ValidTable_1.l0, if_pos (show (i : Int) < (l.length : Int) by omega), if_pos (show 0 ≤ (i : Int) by omega), rdl_get5 hi]
            refine Ev.bind (vt1_ev l[i] d l (by omega) (hr _ (List.getElem_mem hi))) ?_
            simp only [hp, if_true]
            exact Ev.now _)
          (fun i hi hp r hr' => by
            apply Ev.succ
            simp only [slices_IndexFunc_int64_int64_impl_ValidTable_1.l0, if_pos (show (i : Int) < (l.length : Int) by omega), if_pos (show 0 ≤ (i : Int) by omega), rdl_get5 hi]
            refine Ev.bind (vt1_ev l[i] d l (by omega) (hr _ (List.getElem_mem hi))) ?_
            simp only [hp, Bool.false_eq_true, if_false, inc hi (by omega)]
            exact hr')
        simp only [slices_ContainsFunc_int64_int64_impl_ValidTable_1.f, slices_IndexFunc_int64_int64_impl_ValidTable_1.f]
        refine Ev.bind (Ev.bind hr1 (Ev.now _)) ?_
        refine (Ev.now _).to ?_
        rw [hr2, any_not, Bool.not_not]
      · simp only [decide_eq_false h3, Bool.false_eq_true, if_false, Bool.false_and]
        exact Ev.now _
    · simp only [decide_eq_true h1, decide_eq_false h2, if_true, Bool.false_eq_true, if_false, Bool.false_and, Bool.and_false]
      exact Ev.now _
  · simp only [decide_eq_false h1, Bool.false_eq_true, if_false, Bool.false_and]
    exact Ev.now _

/-! impl.areMargins -/
theorem rdl_headAM (xs : List (List Int)) : rd_L1 xs 0 = xs.headD [] := by
  unfold rd_L1; cases xs <;> rfl
theorem areMargins_ev (d : Int) (T : List (List Int)) (a b : List Int) (hl : T.length ≤ 1048576) (hr : ∀ r ∈ T, r.length ≤ 1048576) (ha : a.length ≤ 1048576) (hb : b.length ≤ 1048576) : Ev (fun k => impl_areMargins.f k d T a b) (MGS d T a b) := by
  unfold impl_areMargins.f MGS MG
  refine Ev.bind ((iVT_ev d T hl hr).to (show iVT d T = VT d T from rfl)) ?_
  cases h : VT d T with
  | false =>
    simp only [Bool.false_eq_true, if_false, Bool.false_and]
    exact Ev.now _
  | true =>
    have f1 := (vt_facts h).1
    simp only [if_true, Bool.true_and]
    by_cases e1 : (a.length : Int) = (T.length : Int)
    · simp only [if_pos e1, if_pos (show 0 < (T.length : Int) by omega), rdl_headAM, decide_eq_true e1, Bool.and_true]
      by_cases e2 : (b.length : Int) = ((T.headD []).length : Int)
      · simp only [if_pos e2, decide_eq_true e2, Bool.and_true]
        refine Ev.bind (areWithin_ev a 0 1000000 (by omega)) ?_
        cases h2 : (a.all fun n => decide (0 ≤ n ∧ n ≤ 1000000)) with
        | false =>
          simp only [Bool.false_eq_true, if_false, Bool.false_and]
          exact Ev.now _
        | true =>
          simp only [if_true, Bool.true_and]
          exact Ev.bind (areWithin_ev b 0 1000000 (by omega)) (Ev.now _)
      · simp only [if_neg e2, decide_eq_false e2, Bool.and_false]
        exact Ev.now _
    · simp only [if_neg e1, decide_eq_false e1, Bool.and_false, Bool.false_and]
      exact Ev.now _

/-! impl.exact -/
theorem exact_l0 (l : List Int) (hl : l.length ≤ 1048576) : ∀ (d i : Nat), d + i = l.length → Ev (fun k => impl_exact.l0 k ((l.take i).map fun n => (⟨n, n⟩ : S64)) l (l.length : Int) i) (l.map fun n => (⟨n, n⟩ : S64)) := by
  intro d
  induction d with
  | zero =>
    intro i hd
    apply Ev.succ
    simp only [impl_exact.l0, if_neg (show ¬ (i : Int) < (l.length : Int) by omega)]
    rw [List.take_of_length_le (by omega)]
    exact Ev.now _
  | succ d ih =>
    intro i hd
    have hi : i < l.length := by omega
    have := ih (i + 1) (by omega)
    rw [List.take_succ_eq_append_getElem hi, List.map_append] at this
    apply Ev.succ
    simp only [impl_exact.l0, if_pos (show (i : Int) < (l.length : Int) by omega), if_pos (show 0 ≤ (i : Int) by omega), rd_get hi, if_pos (show ((l.take i).map fun n => (⟨n, n⟩ : S64)).length < 8796093022208 by simp; omega), inc hi (by omega)]
    exact this
theorem exact_ev (l : List Int) (hl : l.length ≤ 1048576) : Ev (fun k => impl_exact.f k l) (l.map fun n => (⟨n, n⟩ : S64)) := exact_l0 l hl l.length 0 (by omega)

/-! the law -/
theorem vt_more {d : Int} {l : List (List Int)} (h : VT d l = true) : (1 ≤ d ∧ d ≤ 1000) ∧ ∀ i, i < l.length → ∀ x ∈ l.getD i [], 0 ≤ x ∧ x ≤ 100000 := by
  simp only [VT, rowOk, Bool.and_eq_true, List.all_eq_true, decide_eq_true_iff] at h
  obtain ⟨h1, _, _, h4⟩ := h
  exact ⟨h1, fun i hi => (h4 (l.getD i []) (getD_mem hi)).2⟩
/-- Margin roundings. -/
def MR (d : Int) (T : List (List Int)) (a b : List Int) (X : List (List Int)) : Bool := MGS d T a b && (EL d T X && (decide (X.map (wsum 0) = a) && decide (((List.range (X.headD []).length).map fun k => wsum 0 (colOf X k)) = b)))
theorem mr_spec (d : Int) (T : List (List Int)) (a b : List Int) (X : List (List Int)) (hl : T.length ≤ 1048576) (hr : ∀ r ∈ T, r.length ≤ 1048576) (ha : a.length ≤ 1048576) (hb : b.length ≤ 1048576) (hX : X.length ≤ 1048576) (hrX : ∀ r ∈ X, r.length ≤ 1048576) : Ev (fun k => spec_IsMarginRounding.f k d T a b X) (MR d T a b X) := by
  unfold spec_IsMarginRounding.f MR
  refine Ev.bind (margins_ev d T a b hl hr ha hb) ?_
  cases h : MGS d T a b with
  | false =>
    simp only [Bool.false_eq_true, if_false, Bool.false_and]
    exact Ev.now _
  | true =>
    have hv : VT d T = true := by
      simp only [MGS, Bool.and_eq_true] at h; exact h.1
    obtain ⟨f1, f2, f3, f4⟩ := vt_facts hv
    obtain ⟨g1, g2⟩ := vt_more hv
    simp only [if_true, Bool.true_and]
    refine Ev.bind (elements_ev d T X g1 hX hrX g2) ?_
    cases he : EL d T X with
    | false =>
      simp only [Bool.false_eq_true, if_false, Bool.false_and]
      exact Ev.now _
    | true =>
      simp only [if_true, Bool.true_and]
      simp only [EL, elRow, Bool.and_eq_true, decide_eq_true_eq, List.all_eq_true, List.mem_range] at he
      have hxr : ∀ i, i < X.length → (X.getD i []).length = (T.headD []).length := fun i hi => by rw [(he.2 i hi).1, f4 i (by omega)]
      have hx0 : (X.headD []).length = (T.headD []).length := by
        have := hxr 0 (by omega)
        rwa [show X.getD 0 [] = X.headD [] by cases X <;> rfl] at this
      refine Ev.bind (across_ev X hX hrX) (Ev.bind (same_ev _ a (by rw [List.length_map]; omega)) ?_)
      by_cases e : X.map (wsum 0) = a
      · simp only [decide_eq_true e, if_true, Bool.true_and]
        exact Ev.bind (down_ev X (by omega) hX (by omega) (fun i hi => by rw [hx0]; exact hxr i hi)) (Ev.bind (same_ev _ b (by rw [List.length_map, List.length_range]; omega)) (Ev.now _))
      · simp only [decide_eq_false e, Bool.false_eq_true, if_false, Bool.false_and]
        exact Ev.now _
theorem rdt_ex {l : List Int} {i : Nat} (h : i < l.length) : rd_T64 (l.map fun n => (⟨n, n⟩ : S64)) (i : Int) = ⟨l.getD i 0, l.getD i 0⟩ := by
  unfold rd_T64; simp [List.getD_eq_getElem?_getD, h]
theorem isIn_ex (n x : Int) : isIn ⟨n, n⟩ x = decide (x = n) := by
  unfold isIn
  by_cases h : x = n
  · subst h; simp
  · rw [decide_eq_false h, decide_eq_false (show ¬ (n ≤ x ∧ x ≤ n) by omega)]
theorem list_eq_of {α : Type} (d : α) {l m : List α} (h : l.length = m.length) (he : ∀ i, i < m.length → l.getD i d = m.getD i d) : l = m := by
  apply List.ext_getElem h
  intro i h1 h2
  have := he i h2
  simpa [List.getD_eq_getElem?_getD, h1, h2] using this
theorem holds_mr (d : Int) (T : List (List Int)) (a b : List Int) (X : List (List Int)) (h1 : 1 ≤ T.length) (ha : a.length = T.length) (hb : b.length = (T.headD []).length) (f4 : ∀ i, i < T.length → (T.getD i []).length = (T.headD []).length) :
    HOLDS d T X (a.map fun n => (⟨n, n⟩ : S64)) (b.map fun n => (⟨n, n⟩ : S64)) (wsum 0 a) (wsum 0 a) = (EL d T X && (decide (X.map (wsum 0) = a) && decide (((List.range (X.headD []).length).map fun k => wsum 0 (colOf X k)) = b))) := by
  rw [Bool.eq_iff_iff]
  simp only [HOLDS, EL, elRow, hRowG, rCG, Bool.and_eq_true, decide_eq_true_eq, List.all_eq_true, List.mem_range, List.length_map]
  constructor
  · rintro ⟨hl, hrow, hcol, _⟩
    have hx0 : (X.headD []).length = b.length := by
      have := (hrow 0 (by omega)).1
      rwa [show X.getD 0 [] = X.headD [] by cases X <;> rfl] at this
    refine ⟨⟨by omega, fun i hi => ⟨by rw [(hrow i hi).1, f4 i (by omega), hb], (hrow i hi).2.2⟩⟩, ?_, ?_⟩
    · refine list_eq_of 0 (by rw [List.length_map]; omega) (fun i hi => ?_)
      have := (hrow i (by omega)).2.1
      rw [rdt_ex hi, isIn_ex, decide_eq_true_eq] at this
      rw [getD_map (wsum 0) ([] : List Int) (0 : Int) (by omega), this]
    · refine list_eq_of 0 (by rw [List.length_map, List.length_range]; omega) (fun i hi => ?_)
      have := hcol i hi
      rw [rdt_ex hi, isIn_ex, decide_eq_true_eq] at this
      rw [getD_range _ _ (by omega), this]
  · rintro ⟨⟨hl, hel⟩, e1, e2⟩
    have hx0 : (X.headD []).length = b.length := by rw [← e2, List.length_map, List.length_range]
    refine ⟨by omega, fun i hi => ⟨by rw [(hel i hi).1, f4 i (by omega), hb], ?_, (hel i hi).2⟩, fun k hk => ?_, ?_⟩
    · rw [rdt_ex (by omega), isIn_ex, decide_eq_true_eq, ← e1, getD_map (wsum 0) ([] : List Int) (0 : Int) hi]
    · rw [rdt_ex hk, isIn_ex, decide_eq_true_eq, ← e2, getD_range _ _ (by omega)]
    · rw [e1]; omega
theorem mr_impl (d : Int) (T : List (List Int)) (a b : List Int) (X : List (List Int)) (hl : T.length ≤ 1048576) (hr : ∀ r ∈ T, r.length ≤ 1048576) (ha : a.length ≤ 1048576) (hb : b.length ≤ 1048576) (hX : X.length ≤ 1048576) (hrX : ∀ r ∈ X, r.length ≤ 1048576) : Ev (fun k => impl_IsMarginRounding.f k d T a b X) (MR d T a b X) := by
  unfold impl_IsMarginRounding.f MR
  refine Ev.bind (areMargins_ev d T a b hl hr ha hb) ?_
  cases h : MGS d T a b with
  | false =>
    simp only [Bool.false_eq_true, if_false, Bool.false_and]
    exact Ev.now _
  | true =>
    have h' := h
    simp only [MGS, MG, Bool.and_eq_true, decide_eq_true_eq] at h'
    obtain ⟨hv, ⟨_, la⟩, ⟨_, lb⟩⟩ := h'
    obtain ⟨f1, f2, f3, f4⟩ := vt_facts hv
    obtain ⟨g1, g2⟩ := vt_more hv
    simp only [if_true, Bool.true_and]
    unfold impl_withMargins.f
    refine Ev.bind (Ev.bind (limits_ev d T g1 f1 f2 f3 f4 g2 hr) (Ev.bind (exact_ev a ha) (Ev.bind (exact_ev b hb) (Ev.bind (isum_ev a (by omega)) (Ev.bind (isum_ev a (by omega)) (Ev.now _)))))) ?_
    rw [← holds_mr d T a b X f1 (by omega) (by omega) f4]
    exact Ev.bind (holds_ev d T X _ _ _ _ hX hrX f1 (by rw [List.length_map]; omega) hl (by rw [List.length_map]; omega) (fun i hi => by rw [List.length_map, f4 i hi]; omega)) (Ev.now _)
theorem FnExactIsMarginRounding : laws_FnExactIsMarginRounding.Pure := by
  intro d T a b X _ hl hw hla _ hlb _ hlX hwX
  apply Ev.rounds
  unfold laws_FnExactIsMarginRounding.f
  by_cases ca : (a.length : Int) > 1048576
  · simp only [if_pos ca]
    exact Ev.now _
  by_cases cb : (b.length : Int) > 1048576
  · simp only [if_neg ca, if_pos cb]
    exact Ev.now _
  simp only [if_neg ca, if_neg cb]
  obtain ⟨s, hs, hs2⟩ := szTable_ev d T hl (fun r h => (hw r h).1) 1048576 (by omega) (by omega)
  refine Ev.bind hs ?_
  rcases hs2 with rfl | ⟨h0, h1, h2, h3⟩
  · simp only [if_pos (show (-1 : Int) < 0 by omega)]
    exact Ev.now _
  · simp only [if_neg (show ¬ s < 0 by omega)]
    obtain ⟨u, hu, hu2⟩ := szSS_ev X s hlX (fun r h => (hwX r h).1) h0 (by omega)
    refine Ev.bind hu ?_
    rcases hu2 with rfl | ⟨k0, k1, k2, k3⟩
    · simp only [if_pos (show (-1 : Int) < 0 by omega)]
      exact Ev.now _
    · simp only [if_neg (show ¬ u < 0 by omega)]
      have ht := toTable_ev d T h2 h3
      have hx := toInt64SS_ev X k2 k3
      have ta := toInt64S_ev a (by omega)
      have tb := toInt64S_ev b (by omega)
      refine Ev.bind ht (Ev.bind ta (Ev.bind tb (Ev.bind hx (Ev.bind (mr_spec d T a b X h2 h3 (by omega) (by omega) k2 k3) (Ev.bind ht (Ev.bind ta (Ev.bind tb (Ev.bind hx (Ev.bind (mr_impl d T a b X h2 h3 (by omega) (by omega) k2 k3) ?_)))))))))
      simp only [bne_self_eq_false, Bool.false_eq_true, if_false]
      refine Ev.bind ht (Ev.bind (eqTable_ev d T h2 h3) ?_)
      simp only [if_true]
      refine Ev.bind ta (Ev.bind (eqInt64S_ev a a (by omega)) ?_)
      simp only [decide_true, if_true]
      refine Ev.bind tb (Ev.bind (eqInt64S_ev b b (by omega)) ?_)
      simp only [decide_true, if_true]
      refine Ev.bind hx (Ev.bind (eqInt64SS_ev X X (by omega) (fun r h => by have := k3 r h; omega)) ?_)
      simp only [decide_true, if_true]
      exact Ev.now _


end Go.Proofs.Ytmjabeddommiaaa.Pure
