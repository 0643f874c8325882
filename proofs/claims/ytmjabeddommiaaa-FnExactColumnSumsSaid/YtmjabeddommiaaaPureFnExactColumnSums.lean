/- Proved: the pure half of the law FnExactColumnSums: the printed functions answer true, for every input. No condition. -/
import Derived.Test.YtmjabeddommiaaaPFnExactColumnSumsx7
import Derived.Test.YtmjabeddommiaaaBase
import Derived.Test.YtmjabeddommiaaaLists
import Derived.Test.YtmjabeddommiaaaMarks
namespace Go.Proofs.Ytmjabeddommiaaa.Pure
open Go.RowKit Go.Proofs.Ytmjabeddommiaaa.PFnExactColumnSums Go.Proofs.YtmjabeddommiaaaW.PrintWords Go.Proofs.YtmjabeddommiaaaW.PrintLast Go.Proofs.YtmjabeddommiaaaW.PrintMore Go.Proofs.Ytmjabeddommiaaa.Base
set_option linter.unusedVariables false
set_option linter.unusedSimpArgs false

/-! laws.szInt64S -/
theorem szS_eq (l : List Int) (a : Int) (hl : l.length ≤ 9223372036854775807) (h0 : 0 ≤ a) (h1 : a ≤ 1048576) : laws_szInt64S.f l a = some (if a < l.length then -1 else a - l.length) := by
  unfold laws_szInt64S.f
  rw [w64 (by omega) (by omega)]
  by_cases h : a < l.length
  · rw [if_pos (by omega), if_pos h]
  · rw [if_neg (by omega), if_neg h]

/-! laws.szInt64SS -/
theorem rdl_get {xs : List (List Int)} {i : Nat} (h : i < xs.length) : rd_L1 xs (i : Int) = xs[i] := by
  unfold rd_L1; exact getD_get h
theorem szSS_l0 (l : List (List Int)) (a : Int) (hl : l.length ≤ 1048576) (hr : ∀ r ∈ l, r.length ≤ 9223372036854775807) (h1 : a ≤ 1048576) : ∀ (d i : Nat) (b : Int), d + i = l.length → 0 ≤ b → b ≤ a → (∀ (j : Nat) (h : j < l.length), j < i → ((l[j]).length : Int) ≤ a) → ∃ r : Int, Ev (fun k => laws_szInt64SS.l0 k l b i) r ∧ (r = -1 ∨ (0 ≤ r ∧ r ≤ a ∧ ∀ x ∈ l, (x.length : Int) ≤ a)) := by
  intro d
  induction d with
  | zero =>
    intro i b hd h0 hb hj
    refine ⟨b, ?_, .inr ⟨h0, hb, fun x hx => ?_⟩⟩
    · apply Ev.succ
      simp only [laws_szInt64SS.l0, if_neg (show ¬ (i : Int) < (l.length : Int) by omega)]
      exact Ev.now _
    · obtain ⟨j, hj', rfl⟩ := List.getElem_of_mem hx
      exact hj j hj' (by omega)
  | succ d ih =>
    intro i b hd h0 hb hj
    have hi : i < l.length := by omega
    have hri := hr l[i] (List.getElem_mem hi)
    by_cases h : b < (l[i]).length
    · refine ⟨-1, ?_, .inl rfl⟩
      apply Ev.succ
      simp only [laws_szInt64SS.l0, if_pos (show (i : Int) < (l.length : Int) by omega), if_pos (show 0 ≤ (i : Int) by omega), rdl_get hi, szS_eq l[i] b hri h0 (by omega), if_pos h, Option.bind_some, if_pos (show (-1 : Int) < 0 by omega)]
      exact Ev.now _
    · obtain ⟨r, hr1, hr2⟩ := ih (i + 1) (b - (l[i]).length) (by omega) (by omega) (by omega) (fun j hj1 hj2 => by
        by_cases e : j = i
        · subst e; omega
        · exact hj j hj1 (by omega))
      refine ⟨r, ?_, hr2⟩
      apply Ev.succ
      simp only [laws_szInt64SS.l0, if_pos (show (i : Int) < (l.length : Int) by omega), if_pos (show 0 ≤ (i : Int) by omega), rdl_get hi, szS_eq l[i] b hri h0 (by omega), if_neg h, Option.bind_some, if_neg (show ¬ b - (l[i]).length < 0 by omega), w64 (show (-9223372036854775808) ≤ (i : Int) + 1 by omega) (by omega)]
      exact hr1
theorem szSS_ev (l : List (List Int)) (a : Int) (hl : l.length ≤ 9223372036854775807) (hr : ∀ r ∈ l, r.length ≤ 9223372036854775807) (h0 : 0 ≤ a) (h1 : a ≤ 1048576) : ∃ r : Int, Ev (fun k => laws_szInt64SS.f k l a) r ∧ (r = -1 ∨ (0 ≤ r ∧ r ≤ a ∧ l.length ≤ 1048576 ∧ ∀ x ∈ l, x.length ≤ 1048576)) := by
  unfold laws_szInt64SS.f
  rw [w64 (show (-9223372036854775808) ≤ a - (l.length : Int) by omega) (by omega)]
  by_cases h : a - (l.length : Int) < 0
  · simp only [if_pos h]
    exact ⟨-1, Ev.now _, .inl rfl⟩
  · simp only [if_neg h]
    obtain ⟨r, h1', h2⟩ := szSS_l0 l a (by omega) hr h1 l.length 0 (a - l.length) (by omega) (by omega) (by omega) (fun j _ hj => by omega)
    refine ⟨r, h1', ?_⟩
    rcases h2 with h2 | ⟨h2, h3, h4⟩
    · exact .inl h2
    · exact .inr ⟨h2, h3, by omega, fun x hx => by have := h4 x hx; omega⟩

/-! laws.szTable -/
theorem szTable_ev (d : Int) (l : List (List Int)) (hl : l.length ≤ 9223372036854775807) (hr : ∀ r ∈ l, r.length ≤ 9223372036854775807) (a : Int) (h0 : 0 ≤ a) (h1 : a ≤ 1048576) : ∃ r : Int, Ev (fun k => laws_szTable.f k d l a) r ∧ (r = -1 ∨ (0 ≤ r ∧ r ≤ a ∧ l.length ≤ 1048576 ∧ ∀ x ∈ l, x.length ≤ 1048576)) := by
  obtain ⟨r, h2, h3⟩ := szSS_ev l a hl hr h0 h1
  unfold laws_szTable.f
  refine ⟨r, Ev.bind h2 ?_, h3⟩
  rcases h3 with rfl | h3
  · exact Ev.now _
  · simp only [if_neg (show ¬ r < 0 by omega)]
    exact Ev.now _

/-! laws.toInt64S -/
theorem to_step (l : List Int) (i : Nat) (hi : i < l.length) : (l.take i ++ List.replicate (l.length - i) 0).set i l[i] = l.take (i + 1) ++ List.replicate (l.length - (i + 1)) 0 := by
  rw [show l.length - i = (l.length - (i + 1)) + 1 by omega, List.replicate_succ, List.set_append, if_neg (by simp; omega), List.length_take, Nat.min_eq_left (by omega), Nat.sub_self, List.set_cons_zero, List.take_succ_eq_append_getElem hi, List.append_assoc]
  rfl
theorem to_l0 (l : List Int) (hl : l.length ≤ 35184372088832) : ∀ (d i : Nat), d + i = l.length → Ev (fun k => laws_toInt64S.l0 k l (l.take i ++ List.replicate (l.length - i) 0) i) l := by
  intro d
  induction d with
  | zero =>
    intro i hd
    apply Ev.succ
    simp only [laws_toInt64S.l0, if_neg (show ¬ (i : Int) < (l.length : Int) by omega)]
    rw [List.take_of_length_le (by omega), show l.length - i = 0 by omega]
    simpa using Ev.now l
  | succ d ih =>
    intro i hd
    have hi : i < l.length := by omega
    apply Ev.succ
    simp only [laws_toInt64S.l0, if_pos (show (i : Int) < (l.length : Int) by omega), if_pos (show 0 ≤ (i : Int) by omega), if_pos (show (i : Int) < ((l.take i ++ List.replicate (l.length - i) (0 : Int)).length : Int) by simp; omega), rd_get hi, w64 (show (-9223372036854775808) ≤ (i : Int) + 1 by omega) (by omega), Int.toNat_natCast, to_step l i hi]
    exact ih (i + 1) (by omega)
theorem toInt64S_ev (l : List Int) (hl : l.length ≤ 35184372088832) : Ev (fun k => laws_toInt64S.f k l) l := by
  simp only [laws_toInt64S.f, if_pos (show 0 ≤ (l.length : Int) by omega), Int.toNat_natCast, if_pos hl]
  have := to_l0 l hl l.length 0 (by omega)
  simpa using this

/-! laws.toInt64SS -/
theorem toss_step (l : List (List Int)) (i : Nat) (hi : i < l.length) : (l.take i ++ List.replicate (l.length - i) []).set i l[i] = l.take (i + 1) ++ List.replicate (l.length - (i + 1)) [] := by
  rw [show l.length - i = (l.length - (i + 1)) + 1 by omega, List.replicate_succ, List.set_append, if_neg (by simp; omega), List.length_take, Nat.min_eq_left (by omega), Nat.sub_self, List.set_cons_zero, List.take_succ_eq_append_getElem hi, List.append_assoc]
  rfl
theorem rdl_get2 {xs : List (List Int)} {i : Nat} (h : i < xs.length) : rd_L1 xs (i : Int) = xs[i] := by
  unfold rd_L1; exact getD_get h
theorem toss_l0 (l : List (List Int)) (hl : l.length ≤ 1048576) (hr : ∀ r ∈ l, r.length ≤ 1048576) : ∀ (d i : Nat), d + i = l.length → Ev (fun k => laws_toInt64SS.l0 k l (l.take i ++ List.replicate (l.length - i) []) i) l := by
  intro d
  induction d with
  | zero =>
    intro i hd
    apply Ev.succ
    simp only [laws_toInt64SS.l0, if_neg (show ¬ (i : Int) < (l.length : Int) by omega)]
    rw [List.take_of_length_le (by omega), show l.length - i = 0 by omega]
    simpa using Ev.now l
  | succ d ih =>
    intro i hd
    have hi : i < l.length := by omega
    have hri := hr l[i] (List.getElem_mem hi)
    apply Ev.succ
    simp only [laws_toInt64SS.l0, if_pos (show (i : Int) < (l.length : Int) by omega), if_pos (show 0 ≤ (i : Int) by omega), if_pos (show (i : Int) < ((l.take i ++ List.replicate (l.length - i) ([] : List Int)).length : Int) by simp; omega), rdl_get2 hi, w64 (show (-9223372036854775808) ≤ (i : Int) + 1 by omega) (by omega), Int.toNat_natCast]
    refine Ev.bind (toInt64S_ev l[i] (by omega)) ?_
    rw [toss_step l i hi]
    exact ih (i + 1) (by omega)
theorem toInt64SS_ev (l : List (List Int)) (hl : l.length ≤ 1048576) (hr : ∀ r ∈ l, r.length ≤ 1048576) : Ev (fun k => laws_toInt64SS.f k l) l := by
  simp only [laws_toInt64SS.f, if_pos (show 0 ≤ (l.length : Int) by omega), Int.toNat_natCast, if_pos (show l.length ≤ 11728124029610 by omega)]
  have := toss_l0 l hl hr l.length 0 (by omega)
  simpa using this

/-! laws.toTable -/
theorem toTable_ev (d : Int) (l : List (List Int)) (hl : l.length ≤ 1048576) (hr : ∀ r ∈ l, r.length ≤ 1048576) : Ev (fun k => laws_toTable.f k d l) (d, l) := by
  unfold laws_toTable.f
  exact Ev.bind (toInt64SS_ev l hl hr) (Ev.now _)

/-! laws.eqInt64S -/
theorem eq_l0 (a b : List Int) (hl : a.length = b.length) (hm : a.length ≤ 9223372036854775806) : ∀ (d i : Nat), d + i = a.length → Ev (fun k => laws_eqInt64S.l0 k a b i) (decide (a.drop i = b.drop i)) := by
  intro d
  induction d with
  | zero =>
    intro i hd
    apply Ev.succ
    simp only [laws_eqInt64S.l0, if_neg (show ¬ (i : Int) < (a.length : Int) by omega)]
    rw [List.drop_of_length_le (by omega), List.drop_of_length_le (by omega)]
    exact Ev.now _
  | succ d ih =>
    intro i hd
    have hi : i < a.length := by omega
    have hi' : i < b.length := by omega
    apply Ev.succ
    simp only [laws_eqInt64S.l0, if_pos (show (i : Int) < (a.length : Int) by omega), if_pos (show 0 ≤ (i : Int) by omega), if_pos (show (i : Int) < (b.length : Int) by omega), rd_get hi, rd_get hi', w64 (show (-9223372036854775808) ≤ (i : Int) + 1 by omega) (by omega)]
    rw [List.drop_eq_getElem_cons hi, List.drop_eq_getElem_cons hi']
    by_cases h : a[i] = b[i]
    · simp only [if_pos h]
      exact (ih (i + 1) (by omega)).to (by simp only [List.cons.injEq, h, true_and])
    · simp only [if_neg h]
      exact (Ev.now _).to (by simp only [List.cons.injEq, h, false_and, decide_false])
theorem eqInt64S_ev (a b : List Int) (hm : a.length ≤ 9223372036854775806) : Ev (fun k => laws_eqInt64S.f k a b) (decide (a = b)) := by
  unfold laws_eqInt64S.f
  by_cases h : a.length = b.length
  · simp only [if_pos (show (a.length : Int) = (b.length : Int) by omega)]
    simpa using eq_l0 a b h hm a.length 0 (by omega)
  · simp only [if_neg (show ¬ (a.length : Int) = (b.length : Int) by omega)]
    exact (Ev.now _).to (by symm; simp; intro e; exact h (by rw [e]))

/-! laws.eqInt64SS -/
theorem rdl_get3 {xs : List (List Int)} {i : Nat} (h : i < xs.length) : rd_L1 xs (i : Int) = xs[i] := by
  unfold rd_L1; exact getD_get h
theorem eqss_l0 (a b : List (List Int)) (hl : a.length = b.length) (hm : a.length ≤ 9223372036854775806) (hr : ∀ r ∈ a, r.length ≤ 9223372036854775806) : ∀ (d i : Nat), d + i = a.length → Ev (fun k => laws_eqInt64SS.l0 k a b i) (decide (a.drop i = b.drop i)) := by
  intro d
  induction d with
  | zero =>
    intro i hd
    apply Ev.succ
    simp only [laws_eqInt64SS.l0, if_neg (show ¬ (i : Int) < (a.length : Int) by omega)]
    rw [List.drop_of_length_le (by omega), List.drop_of_length_le (by omega)]
    exact Ev.now _
  | succ d ih =>
    intro i hd
    have hi : i < a.length := by omega
    have hi' : i < b.length := by omega
    apply Ev.succ
    simp only [laws_eqInt64SS.l0, if_pos (show (i : Int) < (a.length : Int) by omega), if_pos (show 0 ≤ (i : Int) by omega), if_pos (show (i : Int) < (b.length : Int) by omega), rdl_get3 hi, rdl_get3 hi', w64 (show (-9223372036854775808) ≤ (i : Int) + 1 by omega) (by omega)]
    rw [List.drop_eq_getElem_cons hi, List.drop_eq_getElem_cons hi']
    refine Ev.bind (eqInt64S_ev a[i] b[i] (hr _ (List.getElem_mem hi))) ?_
    by_cases h : a[i] = b[i]
    · simp only [decide_eq_true h, if_true]
      exact (ih (i + 1) (by omega)).to (by simp only [List.cons.injEq, h, true_and])
    · simp only [decide_eq_false h, Bool.false_eq_true, if_false]
      exact (Ev.now _).to (by simp only [List.cons.injEq, h, false_and, decide_false])
theorem eqInt64SS_ev (a b : List (List Int)) (hm : a.length ≤ 9223372036854775806) (hr : ∀ r ∈ a, r.length ≤ 9223372036854775806) : Ev (fun k => laws_eqInt64SS.f k a b) (decide (a = b)) := by
  unfold laws_eqInt64SS.f
  by_cases h : a.length = b.length
  · simp only [if_pos (show (a.length : Int) = (b.length : Int) by omega)]
    simpa using eqss_l0 a b h hm hr a.length 0 (by omega)
  · simp only [if_neg (show ¬ (a.length : Int) = (b.length : Int) by omega)]
    exact (Ev.now _).to (by symm; simp; intro e; exact h (by rw [e]))

/-! laws.eqTable -/
theorem eqTable_ev (d : Int) (l : List (List Int)) (hl : l.length ≤ 1048576) (hr : ∀ r ∈ l, r.length ≤ 1048576) : Ev (fun k => laws_eqTable.f k d l d l) true := by
  unfold laws_eqTable.f
  simp only [if_true]
  refine Ev.bind (eqInt64SS_ev l l (by omega) (fun r h => by have := hr r h; omega)) ?_
  simp only [decide_true, if_true]
  exact Ev.now _

/-! laws.markInt64S -/
theorem mark_l0 (l : List Int) (m : Int) (hl : l.length ≤ 140737488355328) (h0 : 0 ≤ m) (h1 : m ≤ 4611686018427387904) : ∀ (d i : Nat), d + i = l.length → Ev (fun k => laws_markInt64S.l0 k (MARKS m i ++ l.drop i) (m + (i : Int)) i) (m + (l.length : Int), MARKS m l.length) := by
  intro d
  induction d with
  | zero =>
    intro i hd
    apply Ev.succ
    simp only [laws_markInt64S.l0, if_neg (show ¬ (i : Int) < ((MARKS m i ++ l.drop i).length : Int) by simp [MARKS_length]; omega)]
    rw [show i = l.length by omega, List.drop_length, List.append_nil]
    exact Ev.now _
  | succ d ih =>
    intro i hd
    have hi : i < l.length := by omega
    apply Ev.succ
    simp only [laws_markInt64S.l0, if_pos (show (i : Int) < ((MARKS m i ++ l.drop i).length : Int) by simp [MARKS_length]; omega), if_pos (show 0 ≤ (i : Int) by omega), Int.toNat_natCast, marks_step l m i hi, w64 (show (-9223372036854775808) ≤ (i : Int) + 1 by omega) (by omega), w64 (show (-9223372036854775808) ≤ m + (i : Int) + 1 by omega) (by omega)]
    have := ih (i + 1) (by omega)
    rw [Int.natCast_succ, ← Int.add_assoc] at this
    exact this
theorem markInt64S_ev (l : List Int) (m : Int) (hl : l.length ≤ 140737488355328) (h0 : 0 ≤ m) (h1 : m ≤ 4611686018427387904) : Ev (fun k => laws_markInt64S.f k l m) (m + (l.length : Int), MARKS m l.length) := by
  have := mark_l0 l m hl h0 h1 l.length 0 (by omega)
  simpa [laws_markInt64S.f, MARKS] using this

/-! laws.markInt64SS -/
theorem rdl_getM {xs : List (List Int)} {i : Nat} : rd_L1 xs (i : Int) = xs.getD i [] := by
  unfold rd_L1; simp
theorem mss_l0 (n : Nat) (hn : n ≤ 1048576) : ∀ (d i : Nat) (x : List (List Int)) (m : Int), d + i = n → x.length = n → (∀ r ∈ x, r.length ≤ 1048576) → 0 ≤ m → m ≤ 1 + i * 1048576 → ∃ r : Int, Ev (fun k => laws_markInt64SS.l0 k x m i) r ∧ 0 ≤ r := by
  intro d
  induction d with
  | zero =>
    intro i x m hd hx hr h0 h1
    refine ⟨m, ?_, h0⟩
    apply Ev.succ
    simp only [laws_markInt64SS.l0, if_neg (show ¬ (i : Int) < (x.length : Int) by omega)]
    exact Ev.now _
  | succ d ih =>
    intro i x m hd hx hr h0 h1
    have hi : i < x.length := by omega
    have hm := hr (x.getD i []) (by simp [List.getD_eq_getElem?_getD, hi])
    obtain ⟨r, h2, h3⟩ := ih (i + 1) (x.set i (MARKS m (x.getD i []).length)) (m + (x.getD i []).length) (by omega) (by simp [hx]) (fun r hr' => by
      rcases List.mem_or_eq_of_mem_set hr' with h | h
      · exact hr r h
      · rw [h, MARKS_length]; exact hm) (by omega) (by omega)
    refine ⟨r, ?_, h3⟩
    apply Ev.succ
    simp only [laws_markInt64SS.l0, if_pos (show (i : Int) < (x.length : Int) by omega), if_pos (show 0 ≤ (i : Int) by omega), rdl_getM, inc hi (by omega), Int.toNat_natCast]
    exact Ev.bind (markInt64S_ev (x.getD i []) m (by omega) h0 (by omega)) h2
theorem markSS_ev (x : List (List Int)) (hx : x.length ≤ 1048576) (hr : ∀ r ∈ x, r.length ≤ 1048576) : ∃ r : Int, Ev (fun k => laws_markInt64SS.f k x 1) r ∧ 0 ≤ r := by
  obtain ⟨r, h, h2⟩ := mss_l0 x.length hx x.length 0 x 1 (by omega) rfl hr (by omega) (by omega)
  exact ⟨r, h, h2⟩

/-! laws.markTable -/
theorem markTable_ev (d : Int) (x : List (List Int)) (hx : x.length ≤ 1048576) (hr : ∀ r ∈ x, r.length ≤ 1048576) : ∃ r : Int, Ev (fun k => laws_markTable.f k d x 1) r ∧ 0 ≤ r := by
  unfold laws_markTable.f
  exact markSS_ev x hx hr

/-! laws.heldInt64S -/
theorem held_l0 (m : Int) (n : Nat) (hl : n ≤ 140737488355328) (h0 : 0 ≤ m) (h1 : m ≤ 4611686018427387904) : ∀ (d i : Nat), d + i = n → Ev (fun k => laws_heldInt64S.l0 k (MARKS m n) (m + (i : Int)) i) (m + (n : Int)) := by
  intro d
  induction d with
  | zero =>
    intro i hd
    apply Ev.succ
    simp only [laws_heldInt64S.l0, MARKS_length, if_neg (show ¬ (i : Int) < (n : Int) by omega)]
    rw [show i = n by omega]
    exact Ev.now _
  | succ d ih =>
    intro i hd
    have hi : i < (MARKS m n).length := by rw [MARKS_length]; omega
    apply Ev.succ
    simp only [laws_heldInt64S.l0, MARKS_length, if_pos (show (i : Int) < (n : Int) by omega), if_pos (show 0 ≤ (i : Int) by omega), rd_get hi, MARKS_get m n i hi, if_true, w64 (show (-9223372036854775808) ≤ (i : Int) + 1 by omega) (by omega), w64 (show (-9223372036854775808) ≤ m + (i : Int) + 1 by omega) (by omega)]
    have := ih (i + 1) (by omega)
    rw [Int.natCast_succ, ← Int.add_assoc] at this
    exact this
theorem heldInt64S_ev (m : Int) (n : Nat) (hl : n ≤ 140737488355328) (h0 : 0 ≤ m) (h1 : m ≤ 4611686018427387904) : Ev (fun k => laws_heldInt64S.f k (MARKS m n) m) (m + (n : Int)) := by
  have := held_l0 m n hl h0 h1 n 0 (by omega)
  simpa [laws_heldInt64S.f] using this

/-! spec.l00In -/
theorem in_eq (a b c : Int) : spec_l00In.f a b c = some (decide (b ≤ a ∧ a ≤ c)) := by
  unfold spec_l00In.f
  by_cases h : b ≤ a
  · rw [if_pos (show a ≥ b from h)]; simp [h]
  · rw [if_neg (show ¬ a ≥ b from h)]; simp [h]

/-! spec.l05Is -/
/-- A valid table. -/
def rowOk (n : Nat) (r : List Int) : Bool := decide (r.length = n) && r.all fun x => decide (0 ≤ x ∧ x ≤ 100000)
def VT (d : Int) (l : List (List Int)) : Bool := decide (1 ≤ d ∧ d ≤ 1000) && (decide (1 ≤ (l.length : Int) ∧ (l.length : Int) ≤ 5) && (decide (1 ≤ ((l.headD []).length : Int) ∧ ((l.headD []).length : Int) ≤ 5) && l.all (rowOk (l.headD []).length)))
theorem rdl_get4 {xs : List (List Int)} {i : Nat} (h : i < xs.length) : rd_L1 xs (i : Int) = xs[i] := by
  unfold rd_L1; exact getD_get h
theorem rdl_head (xs : List (List Int)) : rd_L1 xs 0 = xs.headD [] := by
  unfold rd_L1; cases xs <;> rfl
theorem side_eq (a : Int) : spec_l05Side.f a = some (decide (1 ≤ a ∧ a ≤ 5)) := by
  unfold spec_l05Side.f
  by_cases h : 1 ≤ a
  · rw [if_pos (show a ≥ 1 from h)]; simp [h]
  · rw [if_neg (show ¬ a ≥ 1 from h)]; simp [h]
theorem vt_l1 (d : Int) (l : List (List Int)) (i : Nat) (hi : i < l.length) (hm : (l[i]).length ≤ 1048576) {r : Bool} (hr : Ev (fun k => spec_l05Is.l0 k (wrap64 ((i : Int) + 1)) d l) r) : Ev (fun k => spec_l05Is.l1 k i 0 d l) (((l[i]).all fun x => decide (0 ≤ x ∧ x ≤ 100000)) && r) := by
  refine all_loop l[i] (fun x => decide (0 ≤ x ∧ x ≤ 100000)) (fun k j => spec_l05Is.l1 k i j d l) ?_ ?_ ?_
  · apply Ev.succ
    simp only [spec_l05Is.l1, if_pos (show 0 ≤ (i : Int) by omega), if_pos (show (i : Int) < (l.length : Int) by omega), rdl_get4 hi, if_neg (show ¬ ((l[i]).length : Int) < (l[i]).length by omega)]
    exact hr
  · intro j hj hp
    apply Ev.succ
    simp only [spec_l05Is.l1, if_pos (show 0 ≤ (i : Int) by omega), if_pos (show (i : Int) < (l.length : Int) by omega), rdl_get4 hi, if_pos (show (j : Int) < (l[i]).length by omega), if_pos (show 0 ≤ (j : Int) by omega), rd_get hj, in_eq, Option.bind_some, hp, Bool.false_eq_true, if_false]
    exact Ev.now _
  · intro j hj hp r hr
    apply Ev.succ
    simp only [spec_l05Is.l1, if_pos (show 0 ≤ (i : Int) by omega), if_pos (show (i : Int) < (l.length : Int) by omega), rdl_get4 hi, if_pos (show (j : Int) < (l[i]).length by omega), if_pos (show 0 ≤ (j : Int) by omega), rd_get hj, in_eq, Option.bind_some, hp, if_true, inc hj (by omega)]
    exact hr
theorem vt_l0 (d : Int) (l : List (List Int)) (hl : l.length ≤ 1048576) (hr : ∀ r ∈ l, r.length ≤ 1048576) : Ev (fun k => spec_l05Is.l0 k 0 d l) (l.all (rowOk (l.headD []).length)) := by
  refine (all_loop l (rowOk (l.headD []).length) (fun k j => spec_l05Is.l0 k j d l) (r := true) ?_ ?_ ?_).to (by rw [Bool.and_true])
  · apply Ev.succ
    simp only [spec_l05Is.l0, if_neg (show ¬ (l.length : Int) < l.length by omega)]
    exact Ev.now _
  · intro i hi hp
    apply Ev.succ
    simp only [spec_l05Is.l0, if_pos (show (i : Int) < (l.length : Int) by omega), if_pos (show 0 ≤ (i : Int) by omega), if_pos (show 0 < (l.length : Int) by omega), rdl_get4 hi, rdl_head]
    by_cases e : (l[i]).length = (l.headD []).length
    · simp only [if_pos (show ((l[i]).length : Int) = (l.headD []).length by omega)]
      simp only [rowOk, decide_eq_true e, Bool.true_and] at hp
      have hm := hr l[i] (List.getElem_mem hi)
      -- whatever stands behind it, the row itself says no
      refine all_no l[i] (L := fun k j => spec_l05Is.l1 k i j d l) (by omega) ?_ hp ?_
      · intro j hj hq
        apply Ev.succ
        simp only [spec_l05Is.l1, if_pos (show 0 ≤ (i : Int) by omega), if_pos (show (i : Int) < (l.length : Int) by omega), rdl_get4 hi, if_pos (show (j : Int) < (l[i]).length by omega), if_pos (show 0 ≤ (j : Int) by omega), rd_get hj, in_eq, Option.bind_some, hq, Bool.false_eq_true, if_false]
        exact Ev.now _
      · intro j hj hq r hr
        apply Ev.succ
        simp only [spec_l05Is.l1, if_pos (show 0 ≤ (i : Int) by omega), if_pos (show (i : Int) < (l.length : Int) by omega), rdl_get4 hi, if_pos (show (j : Int) < (l[i]).length by omega), if_pos (show 0 ≤ (j : Int) by omega), rd_get hj, in_eq, Option.bind_some, hq, if_true, inc hj (by omega)]
        exact hr
    · simp only [if_neg (show ¬ ((l[i]).length : Int) = (l.headD []).length by omega)]
      exact Ev.now _
  · intro i hi hp r hr'
    simp only [rowOk, Bool.and_eq_true, decide_eq_true_eq] at hp
    apply Ev.succ
    simp only [spec_l05Is.l0, if_pos (show (i : Int) < (l.length : Int) by omega), if_pos (show 0 ≤ (i : Int) by omega), if_pos (show 0 < (l.length : Int) by omega), rdl_get4 hi, rdl_head, if_pos (show ((l[i]).length : Int) = (l.headD []).length by omega)]
    refine (vt_l1 d l i hi (hr _ (List.getElem_mem hi)) (r := r) ?_).to (by rw [hp.2, Bool.true_and])
    rw [inc hi (by omega)]
    exact hr'
theorem l05Is_ev (d : Int) (l : List (List Int)) (hl : l.length ≤ 1048576) (hr : ∀ r ∈ l, r.length ≤ 1048576) : Ev (fun k => spec_l05Is.f k d l) (VT d l) := by
  unfold spec_l05Is.f VT
  simp only [in_eq, side_eq, Option.bind_some, rdl_head]
  by_cases h1 : 1 ≤ d ∧ d ≤ 1000
  · by_cases h2 : 1 ≤ (l.length : Int) ∧ (l.length : Int) ≤ 5
    · simp only [decide_eq_true h1, decide_eq_true h2, if_true, if_pos (show 0 < (l.length : Int) by omega), Bool.true_and]
      apply Ev.succ
      by_cases h3 : 1 ≤ ((l.headD []).length : Int) ∧ ((l.headD []).length : Int) ≤ 5
      · simp only [spec_l05Is.j0, decide_eq_true h3, Bool.not_true, Bool.false_eq_true, if_false, Bool.true_and]
        exact vt_l0 d l hl hr
      · simp only [spec_l05Is.j0, decide_eq_false h3, Bool.not_false, if_true, Bool.false_and]
        exact Ev.now _
    · simp only [decide_eq_true h1, decide_eq_false h2, if_true, Bool.false_eq_true, if_false, Bool.false_and, Bool.and_false]
      apply Ev.succ
      simp only [spec_l05Is.j0, if_true]
      exact Ev.now _
  · simp only [decide_eq_false h1, Bool.false_eq_true, if_false, Bool.false_and]
    apply Ev.succ
    simp only [spec_l05Is.j0, if_true]
    exact Ev.now _
theorem vt_facts {d : Int} {l : List (List Int)} (h : VT d l = true) : 1 ≤ l.length ∧ l.length ≤ 5 ∧ (l.headD []).length ≤ 5 ∧ ∀ i, i < l.length → (l.getD i []).length = (l.headD []).length := by
  simp only [VT, rowOk, Bool.and_eq_true, List.all_eq_true, decide_eq_true_iff] at h
  obtain ⟨_, h2, h3, h4⟩ := h
  refine ⟨by omega, by omega, by omega, fun i hi => ?_⟩
  have := h4 (l.getD i []) (by simp [List.getD_eq_getElem?_getD, hi])
  exact this.1

/-! spec.l05Down -/
theorem rdl_getDn {xs : List (List Int)} {i : Nat} : rd_L1 xs (i : Int) = xs.getD i [] := by
  unfold rd_L1; simp
theorem rdl_headDn (xs : List (List Int)) : rd_L1 xs 0 = xs.headD [] := by
  unfold rd_L1; cases xs <;> rfl
theorem rd_getDn {xs : List Int} {i : Nat} : rd xs (i : Int) = xs.getD i 0 := by
  unfold rd; simp
theorem down_l1 (l : List (List Int)) (m i : Nat) (hl : l.length ≤ 1048576) (hm : m ≤ 1048576) (hi : i < l.length) (hr : (l.getD i []).length = m) {R : List Int} (hs : Ev (fun k => spec_l05Down.l0 k l (stair (dcol l) m (i + 1) 0) ((i : Int) + 1)) R) : ∀ (d j : Nat), d + j = m → Ev (fun k => spec_l05Down.l1 k l (stair (dcol l) m i j) i j) R := by
  intro d
  induction d with
  | zero =>
    intro j hd
    apply Ev.succ
    have e : j = m := by omega
    subst e
    simp only [spec_l05Down.l1, if_pos (show 0 ≤ (i : Int) by omega), if_pos (show (i : Int) < l.length by omega), rdl_getDn, hr, if_neg (show ¬ (j : Int) < (j : Int) by omega), inc hi (by omega), stair_end]
    exact hs
  | succ d ih =>
    intro j hd
    have hj : j < m := by omega
    apply Ev.succ
    simp only [spec_l05Down.l1, if_pos (show 0 ≤ (i : Int) by omega), if_pos (show (i : Int) < l.length by omega), rdl_getDn, hr, if_pos (show (j : Int) < (m : Int) by omega), if_pos (show 0 ≤ (j : Int) by omega), stair_length, rd_getDn, stair_get (dcol l) m i j j hj, if_neg (show ¬ j < j by omega), dcol_succ l i j hi, Int.toNat_natCast, stair_set (dcol l) m i j hj, inc hj (by omega)]
    exact ih (j + 1) (by omega)
theorem down_l0 (l : List (List Int)) (m : Nat) (hl : l.length ≤ 1048576) (hm : m ≤ 1048576) (hr : ∀ i, i < l.length → (l.getD i []).length = m) : ∀ (d i : Nat), d + i = l.length → Ev (fun k => spec_l05Down.l0 k l (stair (dcol l) m i 0) i) ((List.range m).map fun k => wsum 0 (colOf l k)) := by
  intro d
  induction d with
  | zero =>
    intro i hd
    apply Ev.succ
    simp only [spec_l05Down.l0, if_neg (show ¬ (i : Int) < (l.length : Int) by omega)]
    refine (Ev.now _).to ?_
    rw [stair_zero]
    refine List.map_congr_left fun k _ => ?_
    rw [dcol, List.take_of_length_le (by omega)]
  | succ d ih =>
    intro i hd
    have hi : i < l.length := by omega
    apply Ev.succ
    simp only [spec_l05Down.l0, if_pos (show (i : Int) < (l.length : Int) by omega)]
    exact down_l1 l m i hl hm hi (hr i hi) (ih (i + 1) (by omega)) m 0 (by omega)
theorem down_ev (l : List (List Int)) (hn : 1 ≤ l.length) (hl : l.length ≤ 1048576) (hm : (l.headD []).length ≤ 1048576) (hr : ∀ i, i < l.length → (l.getD i []).length = (l.headD []).length) : Ev (fun k => spec_l05Down.f k l) ((List.range (l.headD []).length).map fun k => wsum 0 (colOf l k)) := by
  unfold spec_l05Down.f
  simp only [if_pos (show 0 < (l.length : Int) by omega), rdl_headDn, if_pos (show 0 ≤ ((l.headD []).length : Int) by omega), Int.toNat_natCast, if_pos (show (l.headD []).length ≤ 35184372088832 by omega)]
  have := down_l0 l (l.headD []).length hl hm hr l.length 0 (by omega)
  rw [stair_zero] at this
  have e : (List.range (l.headD []).length).map (dcol l 0) = List.replicate (l.headD []).length 0 := by
    apply List.ext_getElem
    · simp
    · intro k h1 h2
      simp [dcol, colOf, wsum]
  rw [e] at this
  exact this

/-! impl.within -/
theorem within_eq (a b c : Int) : impl_within.f a b c = some (decide (b ≤ a ∧ a ≤ c)) := by
  unfold impl_within.f
  by_cases h : b ≤ a
  · rw [if_pos h]; simp [h]
  · rw [if_neg h]; simp [h]

/-! impl.areWithin -/
theorem aw_l0 (l : List Int) (a b : Int) (hl : l.length ≤ 9223372036854775806) : ∀ (d i : Nat), d + i = l.length → ∃ r : Int, Ev (fun k => slices_IndexFunc_int64_int64_impl_areWithin_1.l0 k l (l.length : Int) i a b) r ∧ (decide (r ≥ 0) = !(l.drop i).all fun n => decide (a ≤ n ∧ n ≤ b)) := by
  intro d
  induction d with
  | zero =>
    intro i hd
    refine ⟨-1, ?_, ?_⟩
    · apply Ev.succ
      simp only [slices_IndexFunc_int64_int64_impl_areWithin_1.l0, if_neg (show ¬ (i : Int) < (l.length : Int) by omega)]
      exact Ev.now _
    · rw [List.drop_of_length_le (by omega)]; rfl
  | succ d ih =>
    intro i hd
    have hi : i < l.length := by omega
    obtain ⟨r, hr, he⟩ := ih (i + 1) (by omega)
    by_cases h : a ≤ l[i] ∧ l[i] ≤ b
    · refine ⟨r, ?_, ?_⟩
      · apply Ev.succ
        simp only [slices_IndexFunc_int64_int64_impl_areWithin_1.l0, if_pos (show (i : Int) < (l.length : Int) by omega), if_pos (show 0 ≤ (i : Int) by omega), rd_get hi, impl_areWithin_1.f, within_eq, decide_eq_true h, Option.bind_some, w64 (show (-9223372036854775808) ≤ (i : Int) + 1 by omega) (by omega)]
        simpa using hr
      · rw [he, List.drop_eq_getElem_cons hi, List.all_cons, decide_eq_true h, Bool.true_and]
    · refine ⟨i, ?_, ?_⟩
      · apply Ev.succ
        simp only [slices_IndexFunc_int64_int64_impl_areWithin_1.l0, if_pos (show (i : Int) < (l.length : Int) by omega), if_pos (show 0 ≤ (i : Int) by omega), rd_get hi, impl_areWithin_1.f, within_eq, decide_eq_false h, Option.bind_some]
        simpa using Ev.now _
      · rw [List.drop_eq_getElem_cons hi, List.all_cons, decide_eq_false h, Bool.false_and]; simp
theorem areWithin_ev (l : List Int) (a b : Int) (hl : l.length ≤ 9223372036854775806) : Ev (fun k => impl_areWithin.f k l a b) (l.all fun n => decide (a ≤ n ∧ n ≤ b)) := by
  obtain ⟨r, hr, he⟩ := aw_l0 l a b hl l.length 0 (by omega)
  unfold impl_areWithin.f
  simp only [slices_ContainsFunc_int64_int64_impl_areWithin_1.f, slices_IndexFunc_int64_int64_impl_areWithin_1.f]
  refine Ev.bind (Ev.bind hr (Ev.now _)) ?_
  refine (Ev.now _).to ?_
  rw [he, List.drop_zero, Bool.not_not]

/-! impl.ValidTable -/
def irowOk (n : Nat) (r : List Int) : Bool := decide (r.length = n) && r.all fun x => decide (0 ≤ x ∧ x ≤ 100000)
def iVT (d : Int) (l : List (List Int)) : Bool := decide (1 ≤ d ∧ d ≤ 1000) && (decide (1 ≤ (l.length : Int) ∧ (l.length : Int) ≤ 5) && (decide (1 ≤ ((l.headD []).length : Int) ∧ ((l.headD []).length : Int) ≤ 5) && l.all (irowOk (l.headD []).length)))
theorem rdl_get5 {xs : List (List Int)} {i : Nat} (h : i < xs.length) : rd_L1 xs (i : Int) = xs[i] := by
  unfold rd_L1; exact getD_get h
theorem rdl_head5 (xs : List (List Int)) : rd_L1 xs 0 = xs.headD [] := by
  unfold rd_L1; cases xs <;> rfl
theorem vt1_ev (r : List Int) (d : Int) (l : List (List Int)) (hp : 0 < l.length) (hr : r.length ≤ 1048576) : Ev (fun k => impl_ValidTable_1.f k r d l) (!irowOk (l.headD []).length r) := by
  unfold impl_ValidTable_1.f irowOk
  simp only [if_pos (show 0 < (l.length : Int) by omega), rdl_head5]
  by_cases e : r.length = (l.headD []).length
  · simp only [if_pos (show (r.length : Int) = (l.headD []).length by omega), decide_eq_true e, Bool.true_and]
    exact Ev.bind (areWithin_ev r 0 100000 (by omega)) (Ev.now _)
  · simp only [if_neg (show ¬ (r.length : Int) = (l.headD []).length by omega), decide_eq_false e, Bool.false_and, Bool.not_false]
    exact Ev.now _
theorem iVT_ev (d : Int) (l : List (List Int)) (hl : l.length ≤ 1048576) (hr : ∀ r ∈ l, r.length ≤ 1048576) : Ev (fun k => impl_ValidTable.f k d l) (iVT d l) := by
  unfold impl_ValidTable.f iVT
  simp only [within_eq, impl_size_int64_68.f, impl_size_int64_67.f, Option.bind_some, rdl_head5]
  by_cases h1 : 1 ≤ d ∧ d ≤ 1000
  · by_cases h2 : 1 ≤ (l.length : Int) ∧ (l.length : Int) ≤ 5
    · simp only [decide_eq_true h1, decide_eq_true h2, if_true, if_pos (show 0 < (l.length : Int) by omega), Bool.true_and]
      by_cases h3 : 1 ≤ ((l.headD []).length : Int) ∧ ((l.headD []).length : Int) ≤ 5
      · simp only [decide_eq_true h3, if_true, Bool.true_and]
        obtain ⟨r, hr1, hr2⟩ := find_loop l (fun x => !irowOk (l.headD []).length x) (fun k j => slices_IndexFunc_int64_int64_impl_ValidTable_1.l0 k l (l.length : Int) j d l)
          (by
            apply Ev.succ
            simp only [slices_IndexFunc_int64_int64_impl_ValidTable_1.l0, if_neg (show ¬ (l.length : Int) < l.length by omega)]
            exact Ev.now _)
          (fun i hi hp => by
            apply Ev.succ
            simp only [slices_IndexFunc_int64_int64_impl_ValidTable_1.l0, if_pos (show (i : Int) < (l.length : Int) by omega), if_pos (show 0 ≤ (i : Int) by omega), rdl_get5 hi]
            refine Ev.bind (vt1_ev l[i] d l (by omega) (hr _ (List.getElem_mem hi))) ?_
            simp only [hp, if_true]
            exact Ev.now _)
          (fun i hi hp r hr' => by
            apply Ev.succ
            simp only [slices_IndexFunc_int64_int64_impl_ValidTable_1.l0, if_pos (show (i : Int) < (l.length : Int) by omega), if_pos (show 0 ≤ (i : Int) by omega), rdl_get5 hi]
            refine Ev.bind (vt1_ev l[i] d l (by omega) (hr _ (List.getElem_mem hi))) ?_
            simp only [hp, Bool.false_eq_true, if_false, inc hi (by omega)]
            exact hr')
        simp only [slices_ContainsFunc_int64_int64_impl_ValidTable_1.f, slices_IndexFunc_int64_int64_impl_ValidTable_1.f]
        refine Ev.bind (Ev.bind hr1 (Ev.now _)) ?_
        refine (Ev.now _).to ?_
        rw [hr2, any_not, Bool.not_not]
      · simp only [decide_eq_false h3, Bool.false_eq_true, if_false, Bool.false_and]
        exact Ev.now _
    · simp only [decide_eq_true h1, decide_eq_false h2, if_true, Bool.false_eq_true, if_false, Bool.false_and, Bool.and_false]
      exact Ev.now _
  · simp only [decide_eq_false h1, Bool.false_eq_true, if_false, Bool.false_and]
    exact Ev.now _

/-! impl.sum -/
theorem isum_l0 (l : List Int) (hl : l.length ≤ 9223372036854775806) : ∀ (d i : Nat) (acc : Int), d + i = l.length → Ev (fun k => impl_sum.l0 k acc l (l.length : Int) i) (wsum acc (l.drop i)) := by
  intro d
  induction d with
  | zero =>
    intro i acc hd
    apply Ev.succ
    simp only [impl_sum.l0, if_neg (show ¬ (i : Int) < (l.length : Int) by omega)]
    rw [List.drop_of_length_le (by omega)]
    exact Ev.now _
  | succ d ih =>
    intro i acc hd
    have hi : i < l.length := by omega
    apply Ev.succ
    simp only [impl_sum.l0, if_pos (show (i : Int) < (l.length : Int) by omega), if_pos (show 0 ≤ (i : Int) by omega), rd_get hi, w64 (show (-9223372036854775808) ≤ (i : Int) + 1 by omega) (by omega)]
    rw [List.drop_eq_getElem_cons hi]
    exact ih (i + 1) _ (by omega)
theorem isum_ev (l : List Int) (hl : l.length ≤ 9223372036854775806) : Ev (fun k => impl_sum.f k l) (wsum 0 l) := by
  have := isum_l0 l hl l.length 0 0 (by omega)
  simpa [impl_sum.f] using this

/-! impl.sums -/
theorem rdl_getS {xs : List (List Int)} {i : Nat} (h : i < xs.length) : rd_L1 xs (i : Int) = xs[i] := by
  unfold rd_L1; exact getD_get h
theorem sums_l0 (l : List (List Int)) (hl : l.length ≤ 1048576) (hr : ∀ r ∈ l, r.length ≤ 1048576) : ∀ (d i : Nat), d + i = l.length → Ev (fun k => impl_sums.l0 k ((l.take i).map (wsum 0)) l (l.length : Int) i) (l.map (wsum 0)) := by
  intro d
  induction d with
  | zero =>
    intro i hd
    apply Ev.succ
    simp only [impl_sums.l0, if_neg (show ¬ (i : Int) < (l.length : Int) by omega)]
    rw [List.take_of_length_le (by omega)]
    exact Ev.now _
  | succ d ih =>
    intro i hd
    have hi : i < l.length := by omega
    have hm := hr l[i] (List.getElem_mem hi)
    apply Ev.succ
    simp only [impl_sums.l0, if_pos (show (i : Int) < (l.length : Int) by omega), if_pos (show 0 ≤ (i : Int) by omega), rdl_getS hi, inc hi (by omega)]
    refine Ev.bind (isum_ev l[i] (by omega)) ?_
    simp only [if_pos (show ((l.take i).map (wsum 0)).length < 17592186044416 by simp; omega)]
    have := ih (i + 1) (by omega)
    rw [List.take_succ_eq_append_getElem hi, List.map_append] at this
    exact this
theorem sums_ev (l : List (List Int)) (hl : l.length ≤ 1048576) (hr : ∀ r ∈ l, r.length ≤ 1048576) : Ev (fun k => impl_sums.f k l) (l.map (wsum 0)) := by
  have := sums_l0 l hl hr l.length 0 (by omega)
  unfold impl_sums.f
  exact this

/-! impl.turned -/
theorem rdl_getT {xs : List (List Int)} {i : Nat} : rd_L1 xs (i : Int) = xs.getD i [] := by
  unfold rd_L1; simp
theorem rdl_headT (xs : List (List Int)) : rd_L1 xs 0 = xs.headD [] := by
  unfold rd_L1; cases xs <;> rfl
theorem rd_getDT {xs : List Int} {i : Nat} : rd xs (i : Int) = xs.getD i 0 := by
  unfold rd; simp
def tcol (l : List (List Int)) (i k : Nat) : List Int := colOf (l.take i) k
theorem turned_l1 (l : List (List Int)) (m i : Nat) (hl : l.length ≤ 1048576) (hm : m ≤ 1048576) (hi : i < l.length) (hr : (l.getD i []).length = m) {R : List (List Int)} (hs : Ev (fun k => impl_turned.l0 k (stair (tcol l) m (i + 1) 0) l (l.length : Int) ((i : Int) + 1)) R) : ∀ (d j : Nat), d + j = m → Ev (fun k => impl_turned.l1 k (stair (tcol l) m i j) l (l.length : Int) i (l.getD i []) (m : Int) j) R := by
  intro d
  induction d with
  | zero =>
    intro j hd
    apply Ev.succ
    have e : j = m := by omega
    subst e
    simp only [impl_turned.l1, if_neg (show ¬ (j : Int) < (j : Int) by omega), inc hi (by omega), stair_end]
    exact hs
  | succ d ih =>
    intro j hd
    have hj : j < m := by omega
    have hlen : (tcol l i j).length ≤ 1048576 := by simp [tcol, colOf]; omega
    apply Ev.succ
    simp only [impl_turned.l1, if_pos (show (j : Int) < (m : Int) by omega), if_pos (show 0 ≤ (j : Int) by omega), if_pos (show (j : Int) < (l.getD i []).length by omega), stair_length, rdl_getT, stair_get (tcol l) m i j j hj, if_neg (show ¬ j < j by omega), if_pos (show (tcol l i j).length < 17592186044416 by omega), inc hj (by omega), Int.toNat_natCast, rd_getDT]
    have e : tcol l i j ++ [(l.getD i []).getD j 0] = tcol l (i + 1) j := (colOf_succ l i j hi).symm
    rw [e, stair_set (tcol l) m i j hj]
    exact ih (j + 1) (by omega)
theorem turned_l0 (l : List (List Int)) (m : Nat) (hl : l.length ≤ 1048576) (hm : m ≤ 1048576) (hr : ∀ i, i < l.length → (l.getD i []).length = m) : ∀ (d i : Nat), d + i = l.length → Ev (fun k => impl_turned.l0 k (stair (tcol l) m i 0) l (l.length : Int) i) ((List.range m).map (colOf l)) := by
  intro d
  induction d with
  | zero =>
    intro i hd
    apply Ev.succ
    simp only [impl_turned.l0, if_neg (show ¬ (i : Int) < (l.length : Int) by omega)]
    refine (Ev.now _).to ?_
    rw [stair_zero]
    refine List.map_congr_left fun k _ => ?_
    rw [tcol, List.take_of_length_le (by omega)]
  | succ d ih =>
    intro i hd
    have hi : i < l.length := by omega
    apply Ev.succ
    simp only [impl_turned.l0, if_pos (show (i : Int) < (l.length : Int) by omega), if_pos (show 0 ≤ (i : Int) by omega), rdl_getT, hr i hi]
    exact turned_l1 l m i hl hm hi (hr i hi) (ih (i + 1) (by omega)) m 0 (by omega)
theorem turned_ev (l : List (List Int)) (hn : 1 ≤ l.length) (hl : l.length ≤ 1048576) (hm : (l.headD []).length ≤ 1048576) (hr : ∀ i, i < l.length → (l.getD i []).length = (l.headD []).length) : Ev (fun k => impl_turned.f k l) ((List.range (l.headD []).length).map (colOf l)) := by
  unfold impl_turned.f
  simp only [if_pos (show 0 < (l.length : Int) by omega), rdl_headT, if_pos (show 0 ≤ ((l.headD []).length : Int) by omega), Int.toNat_natCast, if_pos (show (l.headD []).length ≤ 11728124029610 by omega)]
  have := turned_l0 l (l.headD []).length hl hm hr l.length 0 (by omega)
  rw [stair_zero] at this
  have e : (List.range (l.headD []).length).map (tcol l 0) = List.replicate (l.headD []).length [] := by
    apply List.ext_getElem
    · simp
    · intro k h1 h2
      simp [tcol, colOf]
  rw [e] at this
  exact this

/-! the law -/
def CSM (d : Int) (l : List (List Int)) : List Int × Bool := if VT d l then ((List.range (l.headD []).length).map fun k => wsum 0 (colOf l k), true) else ([], false)
theorem cs_len (d : Int) (l : List (List Int)) (hl : l.length ≤ 1048576) : (CSM d l).1.length ≤ 1048576 := by
  unfold CSM
  cases h : VT d l with
  | false => simp
  | true =>
    have := vt_facts h
    simp only [if_true, List.length_map, List.length_range]
    omega
theorem cs_spec (d : Int) (l : List (List Int)) (hl : l.length ≤ 1048576) (hr : ∀ r ∈ l, r.length ≤ 1048576) : Ev (fun k => spec_ColumnSums.f k d l) (CSM d l) := by
  unfold spec_ColumnSums.f CSM
  refine Ev.bind (l05Is_ev d l hl hr) ?_
  cases h : VT d l with
  | false =>
    simp only [Bool.false_eq_true, if_false]
    exact Ev.now _
  | true =>
    obtain ⟨f1, f2, f3, f4⟩ := vt_facts h
    simp only [if_true]
    exact Ev.bind (down_ev l f1 hl (by omega) f4) (Ev.now _)
theorem cs_impl (d : Int) (l : List (List Int)) (hl : l.length ≤ 1048576) (hr : ∀ r ∈ l, r.length ≤ 1048576) : Ev (fun k => impl_ColumnSums.f k d l) (CSM d l) := by
  unfold impl_ColumnSums.f CSM
  refine Ev.bind ((iVT_ev d l hl hr).to (show iVT d l = VT d l from rfl)) ?_
  cases h : VT d l with
  | false =>
    simp only [Bool.false_eq_true, if_false]
    exact Ev.now _
  | true =>
    obtain ⟨f1, f2, f3, f4⟩ := vt_facts h
    simp only [if_true]
    refine Ev.bind (turned_ev l f1 hl (by omega) f4) (Ev.bind (sums_ev _ (by rw [List.length_map, List.length_range]; omega) (fun r hr' => ?_)) ((Ev.now _).to ?_))
    · obtain ⟨k, _, rfl⟩ := List.mem_map.1 hr'
      simp [colOf]; omega
    · rw [List.map_map]; rfl
theorem FnExactColumnSums : laws_FnExactColumnSums.Pure := by
  intro d l _ hl hw
  apply Ev.rounds
  unfold laws_FnExactColumnSums.f
  obtain ⟨s, hs, hs2⟩ := szTable_ev d l hl (fun r h => (hw r h).1) 1048576 (by omega) (by omega)
  refine Ev.bind hs ?_
  rcases hs2 with rfl | ⟨h0, h1, h2, h3⟩
  · simp only [if_pos (show (-1 : Int) < 0 by omega)]
    exact Ev.now _
  · simp only [if_neg (show ¬ s < 0 by omega)]
    have ht := toTable_ev d l h2 h3
    have hi := cs_impl d l h2 h3
    have hlen := cs_len d l h2
    have he := eqInt64S_ev (CSM d l).1 (CSM d l).1 (by omega)
    have hh := heldInt64S_ev 1 (CSM d l).1.length (by omega) (by omega) (by omega)
    obtain ⟨m, hm, hm0⟩ := markTable_ev d l h2 h3
    refine Ev.bind ht (Ev.bind (cs_spec d l h2 h3) (Ev.bind ht (Ev.bind hi (Ev.bind he ?_))))
    simp only [decide_true, if_true, bne_self_eq_false]
    apply Ev.succ
    simp only [laws_FnExactColumnSums.j0, Bool.false_eq_true, if_false]
    refine Ev.bind ht (Ev.bind (eqTable_ev d l h2 h3) ?_)
    simp only [if_true]
    refine Ev.bind hm ?_
    simp only [if_neg (show ¬ m < 0 by omega)]
    refine Ev.bind he ?_
    simp only [decide_true, if_true, bne_self_eq_false]
    apply Ev.succ
    simp only [laws_FnExactColumnSums.j1, Bool.false_eq_true, if_false]
    refine Ev.bind (markInt64S_ev (CSM d l).1 1 (by omega) (by omega) (by omega)) (Ev.bind hh ?_)
    simp only [if_neg (show ¬ (1 + ((CSM d l).1.length : Int)) < 0 by omega), if_true]
    refine Ev.bind ht (Ev.bind hi (Ev.bind he ?_))
    simp only [decide_true, if_true, bne_self_eq_false]
    apply Ev.succ
    simp only [laws_FnExactColumnSums.j2, Bool.false_eq_true, if_false]
    refine Ev.bind hh ?_
    simp only [if_neg (show ¬ (1 + ((CSM d l).1.length : Int)) < 0 by omega), if_true]
    exact Ev.now _


end Go.Proofs.Ytmjabeddommiaaa.Pure
