/- Proved: the pure half of the law FnExactCutFor: the printed functions answer true, for every input. No condition. -/
import Derived.Test.YtmjabeddommiaaaPFnExactCutForx15
import Derived.Test.YtmjabeddommiaaaBase
import Derived.Test.YtmjabeddommiaaaLists
import Derived.Test.YtmjabeddommiaaaMarks
import Derived.Test.YtmjabeddommiaaaTables
import Derived.Test.YtmjabeddommiaaaCeil
import Derived.Test.YtmjabeddommiaaaCut
import Derived.Test.YtmjabeddommiaaaRnd
namespace Go.Proofs.Ytmjabeddommiaaa.Pure
open Go.RowKit Go.Proofs.Ytmjabeddommiaaa.PFnExactCutFor Go.Proofs.YtmjabeddommiaaaW.PrintWords Go.Proofs.YtmjabeddommiaaaW.PrintLast Go.Proofs.YtmjabeddommiaaaW.PrintMore Go.Proofs.Ytmjabeddommiaaa.Base
set_option linter.unusedVariables false
set_option linter.unusedSimpArgs false


theorem szS_eq (l : List Int) (a : Int) (hl : l.length ≤ 9223372036854775807) (h0 : 0 ≤ a) (h1 : a ≤ 1048576) : laws_szInt64S.f l a = some (if a < l.length then -1 else a - l.length) := by
  unfold laws_szInt64S.f
  rw [w64 (by omega) (by omega)]
  by_cases h : a < l.length
  · rw [if_pos (by omega), if_pos h]
  · rw [if_neg (by omega), if_neg h]


theorem rdl_get {xs : List (List Int)} {i : Nat} (h : i < xs.length) : rd_L1 xs (i : Int) = xs[i] := by
  unfold rd_L1; exact getD_get h
theorem szSS_l0 (l : List (List Int)) (a : Int) (hl : l.length ≤ 1048576) (hr : ∀ r ∈ l, r.length ≤ 9223372036854775807) (h1 : a ≤ 1048576) : ∀ (d i : Nat) (b : Int), d + i = l.length → 0 ≤ b → b ≤ a → (∀ (j : Nat) (h : j < l.length), j < i → ((l[j]).length : Int) ≤ a) → ∃ r : Int, Ev (fun k => laws_szInt64SS.l0 k l b i) r ∧ (r = -1 ∨ (0 ≤ r ∧ r ≤ a ∧ ∀ x ∈ l, (x.length : Int) ≤ a)) := by
  intro d
  induction d with
  | zero =>
    intro i b hd h0 hb hj
    refine ⟨b, ?_, .inr ⟨h0, hb, fun x hx => ?_⟩⟩
    · apply Ev.succ
      simp only [laws_szInt64SS.l0, if_neg (show ¬ (i : Int) < (l.length : Int) by omega)]
      exact Ev.now _
    · obtain ⟨j, hj', rfl⟩ := List.getElem_of_mem hx
      exact hj j hj' (by omega)
  | succ d ih =>
    intro i b hd h0 hb hj
    have hi : i < l.length := by omega
    have hri := hr l[i] (List.getElem_mem hi)
    by_cases h : b < (l[i]).length
    · refine ⟨-1, ?_, .inl rfl⟩
      apply Ev.succ
      simp only [laws_szInt64SS.l0, if_pos (show (i : Int) < (l.length : Int) by omega), if_pos (show 0 ≤ (i : Int) by omega), rdl_get hi, szS_eq l[i] b hri h0 (by omega), if_pos h, Option.bind_some, if_pos (show (-1 : Int) < 0 by omega)]
      exact Ev.now _
    · obtain ⟨r, hr1, hr2⟩ := ih (i + 1) (b - (l[i]).length) (by omega) (by omega) (by omega) (fun j hj1 hj2 => by
        by_cases e : j = i
        · subst e; omega
        · exact hj j hj1 (by omega))
      refine ⟨r, ?_, hr2⟩
      apply Ev.succ
      simp only [laws_szInt64SS.l0, if_pos (show (i : Int) < (l.length : Int) by omega), if_pos (show 0 ≤ (i : Int) by omega), rdl_get hi, szS_eq l[i] b hri h0 (by omega), if_neg h, Option.bind_some, if_neg (show ¬ b - (l[i]).length < 0 by omega), w64 (show (-9223372036854775808) ≤ (i : Int) + 1 by omega) (by omega)]
      exact hr1
theorem szSS_ev (l : List (List Int)) (a : Int) (hl : l.length ≤ 9223372036854775807) (hr : ∀ r ∈ l, r.length ≤ 9223372036854775807) (h0 : 0 ≤ a) (h1 : a ≤ 1048576) : ∃ r : Int, Ev (fun k => laws_szInt64SS.f k l a) r ∧ (r = -1 ∨ (0 ≤ r ∧ r ≤ a ∧ l.length ≤ 1048576 ∧ ∀ x ∈ l, x.length ≤ 1048576)) := by
  unfold laws_szInt64SS.f
  rw [w64 (show (-9223372036854775808) ≤ a - (l.length : Int) by omega) (by omega)]
  by_cases h : a - (l.length : Int) < 0
  · simp only [if_pos h]
    exact ⟨-1, Ev.now _, .inl rfl⟩
  · simp only [if_neg h]
    obtain ⟨r, h1', h2⟩ := szSS_l0 l a (by omega) hr h1 l.length 0 (a - l.length) (by omega) (by omega) (by omega) (fun j _ hj => by omega)
    refine ⟨r, h1', ?_⟩
    rcases h2 with h2 | ⟨h2, h3, h4⟩
    · exact .inl h2
    · exact .inr ⟨h2, h3, by omega, fun x hx => by have := h4 x hx; omega⟩


theorem szTable_ev (d : Int) (l : List (List Int)) (hl : l.length ≤ 9223372036854775807) (hr : ∀ r ∈ l, r.length ≤ 9223372036854775807) (a : Int) (h0 : 0 ≤ a) (h1 : a ≤ 1048576) : ∃ r : Int, Ev (fun k => laws_szTable.f k d l a) r ∧ (r = -1 ∨ (0 ≤ r ∧ r ≤ a ∧ l.length ≤ 1048576 ∧ ∀ x ∈ l, x.length ≤ 1048576)) := by
  obtain ⟨r, h2, h3⟩ := szSS_ev l a hl hr h0 h1
  unfold laws_szTable.f
  refine ⟨r, Ev.bind h2 ?_, h3⟩
  rcases h3 with rfl | h3
  · exact Ev.now _
  · simp only [if_neg (show ¬ r < 0 by omega)]
    exact Ev.now _


theorem to_step (l : List Int) (i : Nat) (hi : i < l.length) : (l.take i ++ List.replicate (l.length - i) 0).set i l[i] = l.take (i + 1) ++ List.replicate (l.length - (i + 1)) 0 := by
  rw [show l.length - i = (l.length - (i + 1)) + 1 by omega, List.replicate_succ, List.set_append, if_neg (by simp; omega), List.length_take, Nat.min_eq_left (by omega), Nat.sub_self, List.set_cons_zero, List.take_succ_eq_append_getElem hi, List.append_assoc]
  rfl
theorem to_l0 (l : List Int) (hl : l.length ≤ 35184372088832) : ∀ (d i : Nat), d + i = l.length → Ev (fun k => laws_toInt64S.l0 k l (l.take i ++ List.replicate (l.length - i) 0) i) l := by
  intro d
  induction d with
  | zero =>
    intro i hd
    apply Ev.succ
    simp only [laws_toInt64S.l0, if_neg (show ¬ (i : Int) < (l.length : Int) by omega)]
    rw [List.take_of_length_le (by omega), show l.length - i = 0 by omega]
    simpa using Ev.now l
  | succ d ih =>
    intro i hd
    have hi : i < l.length := by omega
    apply Ev.succ
    simp only [laws_toInt64S.l0, if_pos (show (i : Int) < (l.length : Int) by omega), if_pos (show 0 ≤ (i : Int) by omega), if_pos (show (i : Int) < ((l.take i ++ List.replicate (l.length - i) (0 : Int)).length : Int) by simp; omega), rd_get hi, w64 (show (-9223372036854775808) ≤ (i : Int) + 1 by omega) (by omega), Int.toNat_natCast, to_step l i hi]
    exact ih (i + 1) (by omega)
theorem toInt64S_ev (l : List Int) (hl : l.length ≤ 35184372088832) : Ev (fun k => laws_toInt64S.f k l) l := by
  simp only [laws_toInt64S.f, if_pos (show 0 ≤ (l.length : Int) by omega), Int.toNat_natCast, if_pos hl]
  have := to_l0 l hl l.length 0 (by omega)
  simpa using this


theorem toss_step (l : List (List Int)) (i : Nat) (hi : i < l.length) : (l.take i ++ List.replicate (l.length - i) []).set i l[i] = l.take (i + 1) ++ List.replicate (l.length - (i + 1)) [] := by
  rw [show l.length - i = (l.length - (i + 1)) + 1 by omega, List.replicate_succ, List.set_append, if_neg (by simp; omega), List.length_take, Nat.min_eq_left (by omega), Nat.sub_self, List.set_cons_zero, List.take_succ_eq_append_getElem hi, List.append_assoc]
  rfl
theorem rdl_get2 {xs : List (List Int)} {i : Nat} (h : i < xs.length) : rd_L1 xs (i : Int) = xs[i] := by
  unfold rd_L1; exact getD_get h
theorem toss_l0 (l : List (List Int)) (hl : l.length ≤ 1048576) (hr : ∀ r ∈ l, r.length ≤ 1048576) : ∀ (d i : Nat), d + i = l.length → Ev (fun k => laws_toInt64SS.l0 k l (l.take i ++ List.replicate (l.length - i) []) i) l := by
  intro d
  induction d with
  | zero =>
    intro i hd
    apply Ev.succ
    simp only [laws_toInt64SS.l0, if_neg (show ¬ (i : Int) < (l.length : Int) by omega)]
    rw [List.take_of_length_le (by omega), show l.length - i = 0 by omega]
    simpa using Ev.now l
  | succ d ih =>
    intro i hd
    have hi : i < l.length := by omega
    have hri := hr l[i] (List.getElem_mem hi)
    apply Ev.succ
    simp only [laws_toInt64SS.l0, if_pos (show (i : Int) < (l.length : Int) by omega), if_pos (show 0 ≤ (i : Int) by omega), if_pos (show (i : Int) < ((l.take i ++ List.replicate (l.length - i) ([] : List Int)).length : Int) by simp; omega), rdl_get2 hi, w64 (show (-9223372036854775808) ≤ (i : Int) + 1 by omega) (by omega), Int.toNat_natCast]
    refine Ev.bind (toInt64S_ev l[i] (by omega)) ?_
    rw [toss_step l i hi]
    exact ih (i + 1) (by omega)
theorem toInt64SS_ev (l : List (List Int)) (hl : l.length ≤ 1048576) (hr : ∀ r ∈ l, r.length ≤ 1048576) : Ev (fun k => laws_toInt64SS.f k l) l := by
  simp only [laws_toInt64SS.f, if_pos (show 0 ≤ (l.length : Int) by omega), Int.toNat_natCast, if_pos (show l.length ≤ 11728124029610 by omega)]
  have := toss_l0 l hl hr l.length 0 (by omega)
  simpa using this


theorem toTable_ev (d : Int) (l : List (List Int)) (hl : l.length ≤ 1048576) (hr : ∀ r ∈ l, r.length ≤ 1048576) : Ev (fun k => laws_toTable.f k d l) (d, l) := by
  unfold laws_toTable.f
  exact Ev.bind (toInt64SS_ev l hl hr) (Ev.now _)


theorem eq_l0 (a b : List Int) (hl : a.length = b.length) (hm : a.length ≤ 9223372036854775806) : ∀ (d i : Nat), d + i = a.length → Ev (fun k => laws_eqInt64S.l0 k a b i) (decide (a.drop i = b.drop i)) := by
  intro d
  induction d with
  | zero =>
    intro i hd
    apply Ev.succ
    simp only [laws_eqInt64S.l0, if_neg (show ¬ (i : Int) < (a.length : Int) by omega)]
    rw [List.drop_of_length_le (by omega), List.drop_of_length_le (by omega)]
    exact Ev.now _
  | succ d ih =>
    intro i hd
    have hi : i < a.length := by omega
    have hi' : i < b.length := by omega
    apply Ev.succ
    simp only [laws_eqInt64S.l0, if_pos (show (i : Int) < (a.length : Int) by omega), if_pos (show 0 ≤ (i : Int) by omega), if_pos (show (i : Int) < (b.length : Int) by omega), rd_get hi, rd_get hi', w64 (show (-9223372036854775808) ≤ (i : Int) + 1 by omega) (by omega)]
    rw [List.drop_eq_getElem_cons hi, List.drop_eq_getElem_cons hi']
    by_cases h : a[i] = b[i]
    · simp only [if_pos h]
      exact (ih (i + 1) (by omega)).to (by simp only [List.cons.injEq, h, true_and])
    · simp only [if_neg h]
      exact (Ev.now _).to (by simp only [List.cons.injEq, h, false_and, decide_false])
theorem eqInt64S_ev (a b : List Int) (hm : a.length ≤ 9223372036854775806) : Ev (fun k => laws_eqInt64S.f k a b) (decide (a = b)) := by
  unfold laws_eqInt64S.f
  by_cases h : a.length = b.length
  · simp only [if_pos (show (a.length : Int) = (b.length : Int) by omega)]
    simpa using eq_l0 a b h hm a.length 0 (by omega)
  · simp only [if_neg (show ¬ (a.length : Int) = (b.length : Int) by omega)]
    exact (Ev.now _).to (by symm; simp; intro e; exact h (by rw [e]))


theorem rdl_get3 {xs : List (List Int)} {i : Nat} (h : i < xs.length) : rd_L1 xs (i : Int) = xs[i] := by
  unfold rd_L1; exact getD_get h
theorem eqss_l0 (a b : List (List Int)) (hl : a.length = b.length) (hm : a.length ≤ 9223372036854775806) (hr : ∀ r ∈ a, r.length ≤ 9223372036854775806) : ∀ (d i : Nat), d + i = a.length → Ev (fun k => laws_eqInt64SS.l0 k a b i) (decide (a.drop i = b.drop i)) := by
  intro d
  induction d with
  | zero =>
    intro i hd
    apply Ev.succ
    simp only [laws_eqInt64SS.l0, if_neg (show ¬ (i : Int) < (a.length : Int) by omega)]
    rw [List.drop_of_length_le (by omega), List.drop_of_length_le (by omega)]
    exact Ev.now _
  | succ d ih =>
    intro i hd
    have hi : i < a.length := by omega
    have hi' : i < b.length := by omega
    apply Ev.succ
    simp only [laws_eqInt64SS.l0, if_pos (show (i : Int) < (a.length : Int) by omega), if_pos (show 0 ≤ (i : Int) by omega), if_pos (show (i : Int) < (b.length : Int) by omega), rdl_get3 hi, rdl_get3 hi', w64 (show (-9223372036854775808) ≤ (i : Int) + 1 by omega) (by omega)]
    rw [List.drop_eq_getElem_cons hi, List.drop_eq_getElem_cons hi']
    refine Ev.bind (eqInt64S_ev a[i] b[i] (hr _ (List.getElem_mem hi))) ?_
    by_cases h : a[i] = b[i]
    · simp only [decide_eq_true h, if_true]
      exact (ih (i + 1) (by omega)).to (by simp only [List.cons.injEq, h, true_and])
    · simp only [decide_eq_false h, Bool.false_eq_true, if_false]
      exact (Ev.now _).to (by simp only [List.cons.injEq, h, false_and, decide_false])
theorem eqInt64SS_ev (a b : List (List Int)) (hm : a.length ≤ 9223372036854775806) (hr : ∀ r ∈ a, r.length ≤ 9223372036854775806) : Ev (fun k => laws_eqInt64SS.f k a b) (decide (a = b)) := by
  unfold laws_eqInt64SS.f
  by_cases h : a.length = b.length
  · simp only [if_pos (show (a.length : Int) = (b.length : Int) by omega)]
    simpa using eqss_l0 a b h hm hr a.length 0 (by omega)
  · simp only [if_neg (show ¬ (a.length : Int) = (b.length : Int) by omega)]
    exact (Ev.now _).to (by symm; simp; intro e; exact h (by rw [e]))


theorem eqTable_ev (d : Int) (l : List (List Int)) (hl : l.length ≤ 1048576) (hr : ∀ r ∈ l, r.length ≤ 1048576) : Ev (fun k => laws_eqTable.f k d l d l) true := by
  unfold laws_eqTable.f
  simp only [if_true]
  refine Ev.bind (eqInt64SS_ev l l (by omega) (fun r h => by have := hr r h; omega)) ?_
  simp only [decide_true, if_true]
  exact Ev.now _


theorem mark_l0 (l : List Int) (m : Int) (hl : l.length ≤ 140737488355328) (h0 : 0 ≤ m) (h1 : m ≤ 4611686018427387904) : ∀ (d i : Nat), d + i = l.length → Ev (fun k => laws_markInt64S.l0 k (MARKS m i ++ l.drop i) (m + (i : Int)) i) (m + (l.length : Int), MARKS m l.length) := by
  intro d
  induction d with
  | zero =>
    intro i hd
    apply Ev.succ
    simp only [laws_markInt64S.l0, if_neg (show ¬ (i : Int) < ((MARKS m i ++ l.drop i).length : Int) by simp [MARKS_length]; omega)]
    rw [show i = l.length by omega, List.drop_length, List.append_nil]
    exact Ev.now _
  | succ d ih =>
    intro i hd
    have hi : i < l.length := by omega
    apply Ev.succ
    simp only [laws_markInt64S.l0, if_pos (show (i : Int) < ((MARKS m i ++ l.drop i).length : Int) by simp [MARKS_length]; omega), if_pos (show 0 ≤ (i : Int) by omega), Int.toNat_natCast, marks_step l m i hi, w64 (show (-9223372036854775808) ≤ (i : Int) + 1 by omega) (by omega), w64 (show (-9223372036854775808) ≤ m + (i : Int) + 1 by omega) (by omega)]
    have := ih (i + 1) (by omega)
    rw [Int.natCast_succ, ← Int.add_assoc] at this
    exact this
theorem markInt64S_ev (l : List Int) (m : Int) (hl : l.length ≤ 140737488355328) (h0 : 0 ≤ m) (h1 : m ≤ 4611686018427387904) : Ev (fun k => laws_markInt64S.f k l m) (m + (l.length : Int), MARKS m l.length) := by
  have := mark_l0 l m hl h0 h1 l.length 0 (by omega)
  simpa [laws_markInt64S.f, MARKS] using this


theorem rdl_getM {xs : List (List Int)} {i : Nat} : rd_L1 xs (i : Int) = xs.getD i [] := by
  unfold rd_L1; simp
theorem mss_l0 (n : Nat) (hn : n ≤ 1048576) : ∀ (d i : Nat) (x : List (List Int)) (m : Int), d + i = n → x.length = n → (∀ r ∈ x, r.length ≤ 1048576) → 0 ≤ m → m ≤ 2000000 + i * 1048576 → ∃ r : Int, Ev (fun k => laws_markInt64SS.l0 k x m i) r ∧ 0 ≤ r ∧ r ≤ 2000000 + (n : Int) * 1048576 := by
  intro d
  induction d with
  | zero =>
    intro i x m hd hx hr h0 h1
    refine ⟨m, ?_, h0, by omega⟩
    apply Ev.succ
    simp only [laws_markInt64SS.l0, if_neg (show ¬ (i : Int) < (x.length : Int) by omega)]
    exact Ev.now _
  | succ d ih =>
    intro i x m hd hx hr h0 h1
    have hi : i < x.length := by omega
    have hm := hr (x.getD i []) (by simp [List.getD_eq_getElem?_getD, hi])
    obtain ⟨r, h2, h3⟩ := ih (i + 1) (x.set i (MARKS m (x.getD i []).length)) (m + (x.getD i []).length) (by omega) (by simp [hx]) (fun r hr' => by
      rcases List.mem_or_eq_of_mem_set hr' with h | h
      · exact hr r h
      · rw [h, MARKS_length]; exact hm) (by omega) (by omega)
    refine ⟨r, ?_, h3⟩
    apply Ev.succ
    simp only [laws_markInt64SS.l0, if_pos (show (i : Int) < (x.length : Int) by omega), if_pos (show 0 ≤ (i : Int) by omega), rdl_getM, inc hi (by omega), Int.toNat_natCast]
    exact Ev.bind (markInt64S_ev (x.getD i []) m (by omega) h0 (by omega)) h2
theorem markSSb_ev (x : List (List Int)) (hx : x.length ≤ 1048576) (hr : ∀ r ∈ x, r.length ≤ 1048576) : ∃ r : Int, Ev (fun k => laws_markInt64SS.f k x 1) r ∧ 0 ≤ r ∧ r ≤ 1100000000000 := by
  obtain ⟨r, h, h2, h3⟩ := mss_l0 x.length hx x.length 0 x 1 (by omega) rfl hr (by omega) (by omega)
  exact ⟨r, h, h2, by omega⟩

theorem markTableB_ev (d : Int) (x : List (List Int)) (hx : x.length ≤ 1048576) (hr : ∀ r ∈ x, r.length ≤ 1048576) : ∃ r : Int, Ev (fun k => laws_markTable.f k d x 1) r ∧ 0 ≤ r ∧ r ≤ 1100000000000 := by
  unfold laws_markTable.f
  exact markSSb_ev x hx hr


theorem held_l0 (m : Int) (n : Nat) (hl : n ≤ 140737488355328) (h0 : 0 ≤ m) (h1 : m ≤ 4611686018427387904) : ∀ (d i : Nat), d + i = n → Ev (fun k => laws_heldInt64S.l0 k (MARKS m n) (m + (i : Int)) i) (m + (n : Int)) := by
  intro d
  induction d with
  | zero =>
    intro i hd
    apply Ev.succ
    simp only [laws_heldInt64S.l0, MARKS_length, if_neg (show ¬ (i : Int) < (n : Int) by omega)]
    rw [show i = n by omega]
    exact Ev.now _
  | succ d ih =>
    intro i hd
    have hi : i < (MARKS m n).length := by rw [MARKS_length]; omega
    apply Ev.succ
    simp only [laws_heldInt64S.l0, MARKS_length, if_pos (show (i : Int) < (n : Int) by omega), if_pos (show 0 ≤ (i : Int) by omega), rd_get hi, MARKS_get m n i hi, if_true, w64 (show (-9223372036854775808) ≤ (i : Int) + 1 by omega) (by omega), w64 (show (-9223372036854775808) ≤ m + (i : Int) + 1 by omega) (by omega)]
    have := ih (i + 1) (by omega)
    rw [Int.natCast_succ, ← Int.add_assoc] at this
    exact this
theorem heldInt64S_ev (m : Int) (n : Nat) (hl : n ≤ 140737488355328) (h0 : 0 ≤ m) (h1 : m ≤ 4611686018427387904) : Ev (fun k => laws_heldInt64S.f k (MARKS m n) m) (m + (n : Int)) := by
  have := held_l0 m n hl h0 h1 n 0 (by omega)
  simpa [laws_heldInt64S.f] using this


theorem in_eq (a b c : Int) : spec_l00In.f a b c = some (decide (b ≤ a ∧ a ≤ c)) := by
  unfold spec_l00In.f
  by_cases h : b ≤ a
  · rw [if_pos (show a ≥ b from h)]; simp [h]
  · rw [if_neg (show ¬ a ≥ b from h)]; simp [h]


def rowOk (n : Nat) (r : List Int) : Bool := decide (r.length = n) && r.all fun x => decide (0 ≤ x ∧ x ≤ 100000)
def VT (d : Int) (l : List (List Int)) : Bool := decide (1 ≤ d ∧ d ≤ 1000) && (decide (1 ≤ (l.length : Int) ∧ (l.length : Int) ≤ 5) && (decide (1 ≤ ((l.headD []).length : Int) ∧ ((l.headD []).length : Int) ≤ 5) && l.all (rowOk (l.headD []).length)))
theorem rdl_get4 {xs : List (List Int)} {i : Nat} (h : i < xs.length) : rd_L1 xs (i : Int) = xs[i] := by
  unfold rd_L1; exact getD_get h
theorem rdl_head (xs : List (List Int)) : rd_L1 xs 0 = xs.headD [] := by
  unfold rd_L1; cases xs <;> rfl
theorem side_eq (a : Int) : spec_l05Side.f a = some (decide (1 ≤ a ∧ a ≤ 5)) := by
  unfold spec_l05Side.f
  by_cases h : 1 ≤ a
  · rw [if_pos (show a ≥ 1 from h)]; simp [h]
  · rw [if_neg (show ¬ a ≥ 1 from h)]; simp [h]
theorem vt_l1 (d : Int) (l : List (List Int)) (i : Nat) (hi : i < l.length) (hm : (l[i]).length ≤ 1048576) {r : Bool} (hr : Ev (fun k => spec_l05Is.l0 k (wrap64 ((i : Int) + 1)) d l) r) : Ev (fun k => spec_l05Is.l1 k i 0 d l) (((l[i]).all fun x => decide (0 ≤ x ∧ x ≤ 100000)) && r) := by
  refine all_loop l[i] (fun x => decide (0 ≤ x ∧ x ≤ 100000)) (fun k j => spec_l05Is.l1 k i j d l) ?_ ?_ ?_
  · apply Ev.succ
    simp only [spec_l05Is.l1, if_pos (show 0 ≤ (i : Int) by omega), if_pos (show (i : Int) < (l.length : Int) by omega), rdl_get4 hi, if_neg (show ¬ ((l[i]).length : Int) < (l[i]).length by omega)]
    exact hr
  · intro j hj hp
    apply Ev.succ
    simp only [spec_l05Is.l1, if_pos (show 0 ≤ (i : Int) by omega), if_pos (show (i : Int) < (l.length : Int) by omega), rdl_get4 hi, if_pos (show (j : Int) < (l[i]).length by omega), if_pos (show 0 ≤ (j : Int) by omega), rd_get hj, in_eq, Option.bind_some, hp, Bool.false_eq_true, if_false]
    exact Ev.now _
  · intro j hj hp r hr
    apply Ev.succ
    simp only [spec_l05Is.l1, if_pos (show 0 ≤ (i : Int) by omega), if_pos (show (i : Int) < (l.length : Int) by omega), rdl_get4 hi, if_pos (show (j : Int) < (l[i]).length by omega), if_pos (show 0 ≤ (j : Int) by omega), rd_get hj, in_eq, Option.bind_some, hp, if_true, inc hj (by omega)]
    exact hr
theorem vt_l0 (d : Int) (l : List (List Int)) (hl : l.length ≤ 1048576) (hr : ∀ r ∈ l, r.length ≤ 1048576) : Ev (fun k => spec_l05Is.l0 k 0 d l) (l.all (rowOk (l.headD []).length)) := by
  refine (all_loop l (rowOk (l.headD []).length) (fun k j => spec_l05Is.l0 k j d l) (r := true) ?_ ?_ ?_).to (by rw [Bool.and_true])
  · apply Ev.succ
    simp only [spec_l05Is.l0, if_neg (show ¬ (l.length : Int) < l.length by omega)]
    exact Ev.now _
  · intro i hi hp
    apply Ev.succ
    simp only [spec_l05Is.l0, if_pos (show (i : Int) < (l.length : Int) by omega), if_pos (show 0 ≤ (i : Int) by omega), if_pos (show 0 < (l.length : Int) by omega), rdl_get4 hi, rdl_head]
    by_cases e : (l[i]).length = (l.headD []).length
    · simp only [if_pos (show ((l[i]).length : Int) = (l.headD []).length by omega)]
      simp only [rowOk, decide_eq_true e, Bool.true_and] at hp
      have hm := hr l[i] (List.getElem_mem hi)
      -- whatever stands behind it, the row itself says no
      refine all_no l[i] (L := fun k j => spec_l05Is.l1 k i j d l) (by omega) ?_ hp ?_
      · intro j hj hq
        apply Ev.succ
        simp only [spec_l05Is.l1, if_pos (show 0 ≤ (i : Int) by omega), if_pos (show (i : Int) < (l.length : Int) by omega), rdl_get4 hi, if_pos (show (j : Int) < (l[i]).length by omega), if_pos (show 0 ≤ (j : Int) by omega), rd_get hj, in_eq, Option.bind_some, hq, Bool.false_eq_true, if_false]
        exact Ev.now _
      · intro j hj hq r hr
        apply Ev.succ
        simp only [spec_l05Is.l1, if_pos (show 0 ≤ (i : Int) by omega), if_pos (show (i : Int) < (l.length : Int) by omega), rdl_get4 hi, if_pos (show (j : Int) < (l[i]).length by omega), if_pos (show 0 ≤ (j : Int) by omega), rd_get hj, in_eq, Option.bind_some, hq, if_true, inc hj (by omega)]
        exact hr
    · simp only [if_neg (show ¬ ((l[i]).length : Int) = (l.headD []).length by omega)]
      exact Ev.now _
  · intro i hi hp r hr'
    simp only [rowOk, Bool.and_eq_true, decide_eq_true_eq] at hp
    apply Ev.succ
    simp only [spec_l05Is.l0, if_pos (show (i : Int) < (l.length : Int) by omega), if_pos (show 0 ≤ (i : Int) by omega), if_pos (show 0 < (l.length : Int) by omega), rdl_get4 hi, rdl_head, if_pos (show ((l[i]).length : Int) = (l.headD []).length by omega)]
    refine (vt_l1 d l i hi (hr _ (List.getElem_mem hi)) (r := r) ?_).to (by rw [hp.2, Bool.true_and])
    rw [inc hi (by omega)]
    exact hr'
theorem l05Is_ev (d : Int) (l : List (List Int)) (hl : l.length ≤ 1048576) (hr : ∀ r ∈ l, r.length ≤ 1048576) : Ev (fun k => spec_l05Is.f k d l) (VT d l) := by
  unfold spec_l05Is.f VT
  simp only [in_eq, side_eq, Option.bind_some, rdl_head]
  by_cases h1 : 1 ≤ d ∧ d ≤ 1000
  · by_cases h2 : 1 ≤ (l.length : Int) ∧ (l.length : Int) ≤ 5
    · simp only [decide_eq_true h1, decide_eq_true h2, if_true, if_pos (show 0 < (l.length : Int) by omega), Bool.true_and]
      apply Ev.succ
      by_cases h3 : 1 ≤ ((l.headD []).length : Int) ∧ ((l.headD []).length : Int) ≤ 5
      · simp only [spec_l05Is.j0, decide_eq_true h3, Bool.not_true, Bool.false_eq_true, if_false, Bool.true_and]
        exact vt_l0 d l hl hr
      · simp only [spec_l05Is.j0, decide_eq_false h3, Bool.not_false, if_true, Bool.false_and]
        exact Ev.now _
    · simp only [decide_eq_true h1, decide_eq_false h2, if_true, Bool.false_eq_true, if_false, Bool.false_and, Bool.and_false]
      apply Ev.succ
      simp only [spec_l05Is.j0, if_true]
      exact Ev.now _
  · simp only [decide_eq_false h1, Bool.false_eq_true, if_false, Bool.false_and]
    apply Ev.succ
    simp only [spec_l05Is.j0, if_true]
    exact Ev.now _
theorem vt_facts {d : Int} {l : List (List Int)} (h : VT d l = true) : 1 ≤ l.length ∧ l.length ≤ 5 ∧ (l.headD []).length ≤ 5 ∧ ∀ i, i < l.length → (l.getD i []).length = (l.headD []).length := by
  simp only [VT, rowOk, Bool.and_eq_true, List.all_eq_true, decide_eq_true_iff] at h
  obtain ⟨_, h2, h3, h4⟩ := h
  refine ⟨by omega, by omega, by omega, fun i hi => ?_⟩
  have := h4 (l.getD i []) (by simp [List.getD_eq_getElem?_getD, hi])
  exact this.1


def MG (l : List Int) (n : Int) : Bool := (l.all fun x => decide (0 ≤ x ∧ x ≤ 1000000)) && decide ((l.length : Int) = n)
theorem margin_ev (l : List Int) (n : Int) (hl : l.length ≤ 9223372036854775806) : Ev (fun k => spec_l05Margin.f k l n) (MG l n) := by
  unfold spec_l05Margin.f MG
  refine all_loop l (fun x => decide (0 ≤ x ∧ x ≤ 1000000)) (fun k j => spec_l05Margin.l0 k l n j) ?_ ?_ ?_
  · apply Ev.succ
    simp only [spec_l05Margin.l0, if_neg (show ¬ (l.length : Int) < l.length by omega)]
    refine (Ev.now _).to ?_
    by_cases h : (l.length : Int) = n <;> simp [h]
  · intro j hj hp
    apply Ev.succ
    simp only [spec_l05Margin.l0, if_pos (show (j : Int) < l.length by omega), if_pos (show 0 ≤ (j : Int) by omega), rd_get hj, in_eq, Option.bind_some, hp, Bool.false_eq_true, if_false]
    exact Ev.now _
  · intro j hj hp r hr
    apply Ev.succ
    simp only [spec_l05Margin.l0, if_pos (show (j : Int) < l.length by omega), if_pos (show 0 ≤ (j : Int) by omega), rd_get hj, in_eq, Option.bind_some, hp, if_true, inc hj (by omega)]
    exact hr


theorem rdl_headMs (xs : List (List Int)) : rd_L1 xs 0 = xs.headD [] := by
  unfold rd_L1; cases xs <;> rfl
def MGS (d : Int) (T : List (List Int)) (a b : List Int) : Bool := VT d T && (MG a T.length && MG b (T.headD []).length)
theorem margins_ev (d : Int) (T : List (List Int)) (a b : List Int) (hl : T.length ≤ 1048576) (hr : ∀ r ∈ T, r.length ≤ 1048576) (ha : a.length ≤ 1048576) (hb : b.length ≤ 1048576) : Ev (fun k => spec_l05Margins.f k d T a b) (MGS d T a b) := by
  unfold spec_l05Margins.f MGS
  refine Ev.bind (l05Is_ev d T hl hr) ?_
  cases h : VT d T with
  | false =>
    simp only [Bool.false_eq_true, if_false, Bool.false_and]
    exact Ev.now _
  | true =>
    have f1 := (vt_facts h).1
    simp only [if_true, Bool.true_and]
    refine Ev.bind (margin_ev a _ (by omega)) ?_
    cases h2 : MG a T.length with
    | false =>
      simp only [Bool.false_eq_true, if_false, Bool.false_and]
      exact Ev.now _
    | true =>
      simp only [if_true, Bool.true_and, if_pos (show 0 < (T.length : Int) by omega), rdl_headMs]
      exact Ev.bind (margin_ev b _ (by omega)) (Ev.now _)


theorem ssum_l0 (l : List Int) (hl : l.length ≤ 9223372036854775806) : ∀ (d i : Nat) (acc : Int), d + i = l.length → Ev (fun k => spec_l01Sum.l0 k l acc i) (wsum acc (l.drop i)) := by
  intro d
  induction d with
  | zero =>
    intro i acc hd
    apply Ev.succ
    simp only [spec_l01Sum.l0, if_neg (show ¬ (i : Int) < (l.length : Int) by omega)]
    rw [List.drop_of_length_le (by omega)]
    exact Ev.now _
  | succ d ih =>
    intro i acc hd
    have hi : i < l.length := by omega
    apply Ev.succ
    simp only [spec_l01Sum.l0, if_pos (show (i : Int) < (l.length : Int) by omega), if_pos (show 0 ≤ (i : Int) by omega), rd_get hi, w64 (show (-9223372036854775808) ≤ (i : Int) + 1 by omega) (by omega)]
    rw [List.drop_eq_getElem_cons hi]
    exact ih (i + 1) _ (by omega)
theorem ssum_ev (l : List Int) (hl : l.length ≤ 9223372036854775806) : Ev (fun k => spec_l01Sum.f k l) (wsum 0 l) := by
  have := ssum_l0 l hl l.length 0 0 (by omega)
  simpa [spec_l01Sum.f] using this


theorem has_ev (l : List Int) (x : Int) (hl : l.length ≤ 1048576) : Ev (fun k => spec_l00Has.f k l x) (decide (x ∈ l)) := by
  have key : ∀ (d i : Nat), i + d = l.length → Ev (fun k => spec_l00Has.l0 k l x (i : Int)) (decide (x ∈ l.drop i)) := by
    intro d
    induction d with
    | zero =>
      intro i hi
      apply Ev.succ
      simp only [spec_l00Has.l0, if_neg (show ¬ (i : Int) < (l.length : Int) by omega)]
      rw [List.drop_of_length_le (by omega)]
      exact (Ev.now _).to (by simp)
    | succ d ih =>
      intro i hi
      have hi' : i < l.length := by omega
      apply Ev.succ
      simp only [spec_l00Has.l0, if_pos (show (i : Int) < (l.length : Int) by omega), if_pos (show 0 ≤ (i : Int) by omega), rd_get hi', inc hi' (by omega)]
      rw [List.drop_eq_getElem_cons hi']
      by_cases c : l[i] = x
      · simp only [if_pos c]
        exact (Ev.now _).to (decide_eq_true (by rw [c]; exact List.mem_cons_self)).symm
      · simp only [if_neg c]
        exact (ih (i + 1) (by omega)).to (decide_eq_decide.2 ⟨fun h => List.mem_cons_of_mem _ h, fun h => (List.mem_cons.1 h).resolve_left fun e => c e.symm⟩)
  unfold spec_l00Has.f
  exact key l.length 0 (by omega)


theorem rdl_M (xs : List (List Int)) (x : Int) : rd_L1 xs x = xs.getD x.toNat [] := id (Eq.refl _)
theorem rd_M (xs : List Int) (x : Int) : rd xs x = xs.getD x.toNat 0 := id (Eq.refl _)
structure GOK (F G : List (List Int)) (a b : List Int) : Prop where
  n : F.length ≤ 1048576
  g : G.length = F.length
  a : a.length = F.length
  m : b.length ≤ 1048576
  f : ∀ i, i < F.length → (F.getD i []).length = b.length
  h : ∀ i, i < F.length → (G.getD i []).length = b.length
theorem more_l3 {F G : List (List Int)} {a b : List Int} (H : GOK F G a b) (os : List Int) (hos : os.length ≤ 1048576) (j : Nat) (hj : j < os.length) (hy : 0 ≤ os.getD j 0 ∧ os.getD j 0 < (b.length : Int)) {R : Int} (X : Int)
    (hend : Ev (fun k => spec_l05More.l2 k os (wrap64 (X + ((List.range F.length).map fun i => (F.getD i []).getD (os.getD j 0).toNat 0).sum)) ((j : Int) + 1) F G a b) R) : ∀ (d i : Nat), i + d = F.length → ∀ Y : Int, Y + (((List.range F.length).drop i).map fun i => (F.getD i []).getD (os.getD j 0).toNat 0).sum = X + ((List.range F.length).map fun i => (F.getD i []).getD (os.getD j 0).toNat 0).sum →
    Ev (fun k => spec_l05More.l3 k os (wrap64 Y) (j : Int) (i : Int) F G a b) R := by
  have hn := H.n
  intro d
  induction d with
  | zero =>
    intro i hi Y hY
    rw [List.drop_of_length_le (by simp; omega), List.map_nil, List.sum_nil, Int.add_zero] at hY
    apply Ev.succ
    simp only [spec_l05More.l3, if_neg (show ¬ (i : Int) < (F.length : Int) by omega), inc hj (by omega)]
    rw [hY]
    exact hend
  | succ d ih =>
    intro i hi Y hY
    have hi' : i < F.length := by omega
    have hf := H.f i hi'
    rw [sum_drop_range _ hi'] at hY
    apply Ev.succ
    simp only [spec_l05More.l3, if_pos (show (i : Int) < (F.length : Int) by omega), if_pos (show 0 ≤ (i : Int) by omega), if_pos (show 0 ≤ (j : Int) by omega), if_pos (show (j : Int) < (os.length : Int) by omega), rd_M, rdl_M, Int.toNat_natCast, if_pos hy.1, hf, if_pos hy.2, inc hi' (by omega), wr_add]
    exact ih (i + 1) (by omega) _ (by omega)
theorem more_l2 {F G : List (List Int)} {a b : List Int} (H : GOK F G a b) (os : List Int) (hos : os.length ≤ 1048576) (hm : ∀ y ∈ os, 0 ≤ y ∧ y < (b.length : Int)) : ∀ (d j : Nat), j + d = os.length → ∀ X : Int,
    Ev (fun k => spec_l05More.l2 k os (wrap64 X) (j : Int) F G a b) (wrap64 (X - ((os.drop j).map (TAKE F b)).sum)) := by
  intro d
  induction d with
  | zero =>
    intro j hj X
    apply Ev.succ
    simp only [spec_l05More.l2, if_neg (show ¬ (j : Int) < (os.length : Int) by omega)]
    rw [List.drop_of_length_le (by omega), List.map_nil, List.sum_nil, Int.sub_zero]
    exact Ev.now _
  | succ d ih =>
    intro j hj X
    have hj' : j < os.length := by omega
    have hy := hm _ (getD_mem (d := 0) hj')
    have := ih (j + 1) (by omega) ((X - b.getD (os.getD j 0).toNat 0) + ((List.range F.length).map fun i => (F.getD i []).getD (os.getD j 0).toNat 0).sum)
    rw [Int.natCast_succ] at this
    have e : X - ((os.drop j).map (TAKE F b)).sum = (X - b.getD (os.getD j 0).toNat 0) + ((List.range F.length).map fun i => (F.getD i []).getD (os.getD j 0).toNat 0).sum - ((os.drop (j + 1)).map (TAKE F b)).sum := by
      rw [sum_drop _ hj']; unfold TAKE; omega
    rw [e]
    apply Ev.succ
    simp only [spec_l05More.l2, if_pos (show (j : Int) < (os.length : Int) by omega), if_pos (show 0 ≤ (j : Int) by omega), rd_M, Int.toNat_natCast, if_pos hy.1, if_pos hy.2, wr_sub]
    exact more_l3 H os hos j hj' hy _ this F.length 0 (by omega) _ (by rw [List.drop_zero])
theorem more_l1 {F G : List (List Int)} {a b : List Int} (H : GOK F G a b) (ss os : List Int) (hss : ss.length ≤ 1048576) (hos : os.length ≤ 1048576) (i : Nat) (hi : i < ss.length) (hx : 0 ≤ ss.getD i 0 ∧ ss.getD i 0 < (F.length : Int)) {R : Int} (X : Int)
    (hend : Ev (fun k => spec_l05More.l0 k ss os (wrap64 (X - OPEN F G os b.length (ss.getD i 0))) ((i : Int) + 1) F G a b) R) : ∀ (d j : Nat), j + d = b.length → ∀ Y : Int, Y - (((List.range b.length).drop j).map (OPEN1 F G os (ss.getD i 0))).sum = X - OPEN F G os b.length (ss.getD i 0) →
    Ev (fun k => spec_l05More.l1 k ss os (wrap64 Y) (i : Int) (j : Int) F G a b) R := by
  have hn := H.n
  have hm := H.m
  have hg := H.g
  intro d
  induction d with
  | zero =>
    intro j hj Y hY
    rw [List.drop_of_length_le (by simp; omega), List.map_nil, List.sum_nil, Int.sub_zero] at hY
    apply Ev.succ
    simp only [spec_l05More.l1, if_neg (show ¬ (j : Int) < (b.length : Int) by omega), inc hi (by omega)]
    rw [hY]
    exact hend
  | succ d ih =>
    intro j hj Y hY
    have hj' : j < b.length := by omega
    have hf := H.f (ss.getD i 0).toNat (by omega)
    have hh := H.h (ss.getD i 0).toNat (by omega)
    rw [sum_drop_range _ hj'] at hY
    apply Ev.succ
    simp only [spec_l05More.l1, if_pos (show (j : Int) < (b.length : Int) by omega)]
    refine Ev.bind (has_ev os (j : Int) hos) ?_
    by_cases c : (j : Int) ∈ os
    · have e1 : OPEN1 F G os (ss.getD i 0) j = 0 := if_pos c
      simp only [decide_eq_true c, if_true, inc hj' (by omega)]
      exact ih (j + 1) (by omega) Y (by omega)
    · have e1 : OPEN1 F G os (ss.getD i 0) j = (G.getD (ss.getD i 0).toNat []).getD j 0 - (F.getD (ss.getD i 0).toNat []).getD j 0 := if_neg c
      simp only [decide_eq_false c, Bool.false_eq_true, if_false, if_pos (show 0 ≤ (i : Int) by omega), if_pos (show (i : Int) < (ss.length : Int) by omega), rd_M, rdl_M, Int.toNat_natCast, if_pos hx.1, if_pos (show ss.getD i 0 < (G.length : Int) by omega), if_pos hx.2, if_pos (show 0 ≤ (j : Int) by omega), hf, hh, if_pos (show (j : Int) < (b.length : Int) by omega), wr_subr, wr_sub, inc hj' (by omega)]
      exact ih (j + 1) (by omega) _ (by omega)
theorem more_ev {F G : List (List Int)} {a b : List Int} (H : GOK F G a b) (ss os : List Int) (hss : ss.length ≤ 1048576) (hos : os.length ≤ 1048576) (hs : ∀ x ∈ ss, 0 ≤ x ∧ x < (F.length : Int)) (ho : ∀ y ∈ os, 0 ≤ y ∧ y < (b.length : Int)) (hr : ∀ r ∈ F, r.length ≤ 1048576) :
    Ev (fun k => spec_l05More.f k F G a b ss os) (wrap64 ((ss.map (LEFT F a)).sum - (ss.map (OPEN F G os b.length)).sum - (os.map (TAKE F b)).sum)) := by
  have ha := H.a
  have hn := H.n
  have key : ∀ (d i : Nat), i + d = ss.length → ∀ X : Int, Ev (fun k => spec_l05More.l0 k ss os (wrap64 X) (i : Int) F G a b) (wrap64 (X + ((ss.drop i).map (LEFT F a)).sum - ((ss.drop i).map (OPEN F G os b.length)).sum - (os.map (TAKE F b)).sum)) := by
    intro d
    induction d with
    | zero =>
      intro i hi X
      have := more_l2 H os hos ho os.length 0 (by omega) X
      apply Ev.succ
      simp only [spec_l05More.l0, if_neg (show ¬ (i : Int) < (ss.length : Int) by omega)]
      rw [List.drop_of_length_le (by omega), List.map_nil, List.map_nil, List.sum_nil, Int.add_zero, Int.sub_zero]
      rw [List.drop_zero] at this
      exact this
    | succ d ih =>
      intro i hi X
      have hi' : i < ss.length := by omega
      have hx := hs _ (getD_mem (d := 0) hi')
      have := ih (i + 1) (by omega) ((X + LEFT F a (ss.getD i 0)) - OPEN F G os b.length (ss.getD i 0))
      rw [Int.natCast_succ] at this
      have e : X + ((ss.drop i).map (LEFT F a)).sum - ((ss.drop i).map (OPEN F G os b.length)).sum - (os.map (TAKE F b)).sum = (X + LEFT F a (ss.getD i 0)) - OPEN F G os b.length (ss.getD i 0) + ((ss.drop (i + 1)).map (LEFT F a)).sum - ((ss.drop (i + 1)).map (OPEN F G os b.length)).sum - (os.map (TAKE F b)).sum := by
        rw [sum_drop (LEFT F a) hi', sum_drop (OPEN F G os b.length) hi']; omega
      rw [e]
      apply Ev.succ
      simp only [spec_l05More.l0, if_pos (show (i : Int) < (ss.length : Int) by omega), if_pos (show 0 ≤ (i : Int) by omega), rd_M, rdl_M, Int.toNat_natCast]
      simp only [if_pos hx.1, if_pos (show ss.getD i 0 < (a.length : Int) by omega), if_pos hx.2]
      refine Ev.bind (ssum_ev (F.getD (ss.getD i 0).toNat []) (by have := hr _ (getD_mem (d := []) (show (ss.getD i 0).toNat < F.length by omega)); omega)) ?_
      simp only [wr_addr, wr_add]
      exact more_l1 H ss os hss hos i hi' hx _ this b.length 0 (by omega) _ (by rw [List.drop_zero]; rfl)
  have := key ss.length 0 (by omega) 0
  rw [wr_zero, List.drop_zero, Int.zero_add] at this
  unfold spec_l05More.f
  exact this


theorem tdiv_mul_range {a b m : Int} (hb : 0 < b) (h1 : -m ≤ a) (h2 : a ≤ m) : -m ≤ a.tdiv b * b ∧ a.tdiv b * b ≤ m := by
  have h := ediv_bounds (a := a) hb
  rcases tdiv_cases (a := a) hb with ⟨e, _, h3⟩ | ⟨e, _, h3, h4⟩
  · rw [e]
    rcases h3 with h3 | h3
    · have : 0 ≤ a / b * b := Int.mul_nonneg (Int.ediv_nonneg h3 (by omega)) (by omega)
      omega
    · have := Int.emod_add_mul_ediv a b
      have h5 : b * (a / b) = (a / b) * b := Int.mul_comm _ _
      omega
  · have h5 : (a / b + 1) * b = a / b * b + b := by rw [Int.add_mul, Int.one_mul]
    have h6 : a / b < 0 := Int.ediv_neg_of_neg_of_pos h3 hb
    have h7 : (a / b + 1) * b ≤ 0 * b := Int.mul_le_mul_of_nonneg_right (by omega) (by omega)
    rw [e]
    omega
theorem sfloor_eq {a b : Int} (hb : 0 < b) (h1 : -9223372036854775807 ≤ a) (h2 : a ≤ 9223372036854775807) : spec_l01Floor.f a b = some (a / b) := by
  have r1 := tdiv_range hb h1 h2 (by omega)
  have r2 := tdiv_mul_range hb h1 h2
  have hf := floorA (a := a) hb
  have e1 : wrap64 (a.tdiv b) = a.tdiv b := w64 (by omega) (by omega)
  have e2 : wrap64 (a.tdiv b * b) = a.tdiv b * b := w64 (by omega) (by omega)
  unfold spec_l01Floor.f
  rw [if_neg (by omega), e1, e2]
  by_cases h : a.tdiv b * b > a
  · rw [if_pos h] at hf
    rw [if_pos h, w64 (by omega) (by omega), hf]
  · rw [if_neg h] at hf
    rw [if_neg h, hf]


theorem ceil_eq {a b : Int} (hb : 0 < b) (hb2 : b ≤ 1000000) (h1 : -1000000000000 ≤ a) (h2 : a ≤ 1000000000000) : spec_l01Ceil.f a b = some (ceilOf a b) := by
  have hr := ceil_range (m := 1000000000000) hb h1 h2 (by omega)
  unfold spec_l01Ceil.f ceilOf
  rw [w64 (show (-9223372036854775808) ≤ -a by omega) (by omega), sfloor_eq hb (by omega) (by omega), Option.bind_some, w64 (by omega) (by omega)]


theorem rdl_B {xs : List (List Int)} {i : Nat} (h : i < xs.length) : rd_L1 xs (i : Int) = xs[i] := by
  unfold rd_L1; exact getD_get h
def FLO (d : Int) (T : List (List Int)) : List (List Int) := T.map fun r => r.map fun x => x / d
def CEI (d : Int) (T : List (List Int)) : List (List Int) := T.map fun r => r.map fun x => ceilOf x d
theorem bounds_l1 (d : Int) (T : List (List Int)) (hd : 1 ≤ d ∧ d ≤ 1000) (hl : T.length ≤ 5) (i : Nat) (hi : i < T.length) (hr : T[i].length ≤ 5) (hv : ∀ x ∈ T[i], 0 ≤ x ∧ x ≤ 100000) {R : List (List Int) × List (List Int)}
    (hend : Ev (fun k => spec_l05Bounds.l0 k T d (FLO d (T.take (i + 1))) (CEI d (T.take (i + 1))) ((i : Int) + 1)) R) : ∀ (m j : Nat), j + m = T[i].length →
    Ev (fun k => spec_l05Bounds.l1 k T d (FLO d (T.take i)) (CEI d (T.take i)) (i : Int) ((T[i].take j).map fun x => x / d) ((T[i].take j).map fun x => ceilOf x d) (j : Int)) R := by
  intro m
  induction m with
  | zero =>
    intro j hj
    apply Ev.succ
    simp only [spec_l05Bounds.l1, if_pos (show 0 ≤ (i : Int) by omega), if_pos (show (i : Int) < (T.length : Int) by omega), rdl_B hi, if_neg (show ¬ (j : Int) < (T[i].length : Int) by omega), if_pos (show (FLO d (T.take i)).length < 5864062014805 by simp [FLO]; omega), if_pos (show (CEI d (T.take i)).length < 5864062014805 by simp [CEI]; omega), inc hi (by omega)]
    rw [show T[i].take j = T[i] from List.take_of_length_le (by omega)]
    have e1 : FLO d (T.take (i + 1)) = FLO d (T.take i) ++ [T[i].map fun x => x / d] := by
      unfold FLO; rw [List.take_succ_eq_append_getElem hi, List.map_append]; rfl
    have e2 : CEI d (T.take (i + 1)) = CEI d (T.take i) ++ [T[i].map fun x => ceilOf x d] := by
      unfold CEI; rw [List.take_succ_eq_append_getElem hi, List.map_append]; rfl
    rw [e1, e2] at hend
    exact hend
  | succ m ih =>
    intro j hj
    have hj' : j < T[i].length := by omega
    have hb := hv T[i][j] (List.getElem_mem hj')
    have := ih (j + 1) (by omega)
    rw [List.take_succ_eq_append_getElem hj', List.map_append, List.map_append] at this
    apply Ev.succ
    simp only [spec_l05Bounds.l1, if_pos (show 0 ≤ (i : Int) by omega), if_pos (show (i : Int) < (T.length : Int) by omega), rdl_B hi, if_pos (show (j : Int) < (T[i].length : Int) by omega), if_pos (show 0 ≤ (j : Int) by omega), rd_get hj', sfloor_eq (show 0 < d by omega) (show -9223372036854775807 ≤ T[i][j] by omega) (by omega), ceil_eq (show 0 < d by omega) (by omega) (show -1000000000000 ≤ T[i][j] by omega) (by omega), Option.bind_some, if_pos (show ((T[i].take j).map fun x => x / d).length < 17592186044416 by simp; omega), if_pos (show ((T[i].take j).map fun x => ceilOf x d).length < 17592186044416 by simp; omega), inc hj' (by omega)]
    exact this
theorem bounds_ev (d : Int) (T : List (List Int)) (hd : 1 ≤ d ∧ d ≤ 1000) (hl : T.length ≤ 5) (hr : ∀ r ∈ T, r.length ≤ 5 ∧ ∀ x ∈ r, 0 ≤ x ∧ x ≤ 100000) : Ev (fun k => spec_l05Bounds.f k T d) (FLO d T, CEI d T) := by
  have key : ∀ (m i : Nat), i + m = T.length → Ev (fun k => spec_l05Bounds.l0 k T d (FLO d (T.take i)) (CEI d (T.take i)) (i : Int)) (FLO d T, CEI d T) := by
    intro m
    induction m with
    | zero =>
      intro i hi
      apply Ev.succ
      simp only [spec_l05Bounds.l0, if_neg (show ¬ (i : Int) < (T.length : Int) by omega)]
      rw [List.take_of_length_le (by omega)]
      exact Ev.now _
    | succ m ih =>
      intro i hi
      have hi' : i < T.length := by omega
      have h1 := hr T[i] (List.getElem_mem hi')
      apply Ev.succ
      simp only [spec_l05Bounds.l0, if_pos (show (i : Int) < (T.length : Int) by omega)]
      exact bounds_l1 d T hd hl i hi' h1.1 h1.2 (ih (i + 1) (by omega)) T[i].length 0 (by omega)
  have := key T.length 0 (by omega)
  unfold spec_l05Bounds.f
  exact this



theorem ev_mono {α : Type} {g : Nat → Option α} {r : α} {K : Nat} (h : g K = some r) (m : ∀ k, LeO (g k) (g (k + 1))) : Ev g r := by
  refine ⟨K, fun k hk => ?_⟩
  obtain ⟨d, rfl⟩ : ∃ d, k = K + d := ⟨k - K, by omega⟩
  clear hk
  induction d with
  | zero => exact h
  | succ d ih => exact m (K + d) r ih
def SETS (n : Int) : List (List Int) := (spec_l05Sets.f 400 n).getD []
set_option maxRecDepth 100000 in
theorem sets_eq : ∀ n ∈ [(1 : Int), 2, 3, 4, 5], spec_l05Sets.f 400 n = some (SETS n) := by decide +kernel
set_option maxRecDepth 100000 in
theorem sets_in : ∀ n ∈ [(1 : Int), 2, 3, 4, 5], (SETS n).length ≤ 32 ∧ ∀ s ∈ SETS n, RSET s (n - 1) = true ∧ s.length ≤ 5 := by decide +kernel
theorem five {n : Int} (h : 1 ≤ n ∧ n ≤ 5) : n ∈ [(1 : Int), 2, 3, 4, 5] := by
  have : n = 1 ∨ n = 2 ∨ n = 3 ∨ n = 4 ∨ n = 5 := by omega
  rcases this with rfl | rfl | rfl | rfl | rfl <;> decide
theorem lsets_ev (n : Int) (h : 1 ≤ n ∧ n ≤ 5) : Ev (fun k => spec_l05Sets.f k n) (SETS n) := ev_mono (sets_eq n (five h)) (spec_l05Sets.mono n)


theorem rdl_CF {xs : List (List Int)} {i : Nat} (h : i < xs.length) : rd_L1 xs (i : Int) = xs.getD i [] := id (Eq.refl _)
theorem dropD {xs : List (List Int)} {i : Nat} (h : i < xs.length) : xs.drop i = xs.getD i [] :: xs.drop (i + 1) := by
  rw [List.drop_eq_getElem_cons h]; simp [List.getD_eq_getElem?_getD, h]
def FST (p : List Int → List Int → Bool) (S2 : List (List Int)) : List (List Int) → List Int × List Int × Bool
  | [] => ([], [], false)
  | s :: S => match S2.find? (p s) with
    | some o => (s, o, true)
    | none => FST p S2 S
theorem icf_l1 (d : Int) (T : List (List Int)) (a b s : List Int) (S1 S2 : List (List Int)) (n1 : Int) (i : Int) (p : List Int → List Int → Bool) (h2 : S2.length ≤ 1048576)
    (hp : ∀ o ∈ S2, Ev (fun k => impl_isCut.f k d T a b s o) (p s o)) {R : List Int × List Int × Bool}
    (hend : Ev (fun k => impl_CutFor.l0 k a b S1 n1 (wrap64 (i + 1)) d T) R) : ∀ (e j : Nat), j + e = S2.length →
    Ev (fun k => impl_CutFor.l1 k a b s S1 n1 i S2 (S2.length : Int) (j : Int) d T) (match (S2.drop j).find? (p s) with | some o => (s, o, true) | none => R) := by
  intro e
  induction e with
  | zero =>
    intro j hj
    apply Ev.succ
    simp only [impl_CutFor.l1, if_neg (show ¬ (j : Int) < (S2.length : Int) by omega)]
    rw [List.drop_of_length_le (by omega)]
    exact hend
  | succ e ih =>
    intro j hj
    have hj' : j < S2.length := by omega
    have := ih (j + 1) (by omega)
    rw [Int.natCast_succ] at this
    apply Ev.succ
    simp only [impl_CutFor.l1, if_pos (show (j : Int) < (S2.length : Int) by omega), if_pos (show 0 ≤ (j : Int) by omega), rdl_CF hj', inc hj' (by omega)]
    rw [dropD hj', List.find?_cons]
    refine Ev.bind (hp _ (getD_mem hj')) ?_
    cases hq : p s (S2.getD j []) with
    | true => simp only [if_true]; exact Ev.now _
    | false => simp only [Bool.false_eq_true, if_false]; exact this
theorem icf_l0 (d : Int) (T : List (List Int)) (a b : List Int) (S1 S2 : List (List Int)) (p : List Int → List Int → Bool) (h1 : S1.length ≤ 1048576) (h2 : S2.length ≤ 1048576)
    (hS : Ev (fun k => impl_subsets.f k (b.length : Int)) S2) (hp : ∀ s ∈ S1, ∀ o ∈ S2, Ev (fun k => impl_isCut.f k d T a b s o) (p s o)) : ∀ (e i : Nat), i + e = S1.length →
    Ev (fun k => impl_CutFor.l0 k a b S1 (S1.length : Int) (i : Int) d T) (FST p S2 (S1.drop i)) := by
  intro e
  induction e with
  | zero =>
    intro i hi
    apply Ev.succ
    simp only [impl_CutFor.l0, if_neg (show ¬ (i : Int) < (S1.length : Int) by omega)]
    rw [List.drop_of_length_le (by omega)]
    exact Ev.now _
  | succ e ih =>
    intro i hi
    have hi' : i < S1.length := by omega
    have := ih (i + 1) (by omega)
    rw [Int.natCast_succ, ← inc hi' (by omega)] at this
    apply Ev.succ
    simp only [impl_CutFor.l0, if_pos (show (i : Int) < (S1.length : Int) by omega), if_pos (show 0 ≤ (i : Int) by omega), rdl_CF hi']
    rw [dropD hi']
    refine Ev.bind hS ?_
    exact icf_l1 d T a b (S1.getD i []) S1 S2 (S1.length : Int) (i : Int) p h2 (hp _ (getD_mem hi')) this S2.length 0 (by omega)


theorem rdl_SF (xs : List (List Int)) (i : Nat) : rd_L1 xs (i : Int) = xs.getD i [] := id (Eq.refl _)
theorem scf_l1 (p q : List (List Int)) (a b : List Int) (S1 S2 : List (List Int)) (i : Nat) (hi : i < S1.length) (P : List Int → List Int → Bool) (h2 : S2.length ≤ 1048576)
    (hp : ∀ o ∈ S2, ∃ v : Int, Ev (fun k => spec_l05More.f k p q a b (S1.getD i []) o) v ∧ P (S1.getD i []) o = decide (0 < v)) {R : List Int × List Int × Bool}
    (hend : Ev (fun k => spec_CutFor.l0 k S1 S2 (wrap64 ((i : Int) + 1)) p q a b) R) : ∀ (e j : Nat), j + e = S2.length →
    Ev (fun k => spec_CutFor.l1 k S1 S2 (i : Int) (j : Int) p q a b) (match (S2.drop j).find? (P (S1.getD i [])) with | some o => (S1.getD i [], o, true) | none => R) := by
  intro e
  induction e with
  | zero =>
    intro j hj
    apply Ev.succ
    simp only [spec_CutFor.l1, if_neg (show ¬ (j : Int) < (S2.length : Int) by omega)]
    rw [List.drop_of_length_le (by omega)]
    exact hend
  | succ e ih =>
    intro j hj
    have hj' : j < S2.length := by omega
    have := ih (j + 1) (by omega)
    rw [Int.natCast_succ] at this
    apply Ev.succ
    simp only [spec_CutFor.l1, if_pos (show (j : Int) < (S2.length : Int) by omega), if_pos (show 0 ≤ (i : Int) by omega), if_pos (show (i : Int) < (S1.length : Int) by omega), if_pos (show 0 ≤ (j : Int) by omega), rdl_SF, inc hj' (by omega)]
    rw [dropD hj', List.find?_cons]
    obtain ⟨v, hv, hq⟩ := hp _ (getD_mem hj')
    refine Ev.bind hv ?_
    rw [hq]
    by_cases c : 0 < v
    · simp only [if_pos c, decide_eq_true c]; exact Ev.now _
    · simp only [if_neg c, decide_eq_false c]; exact this
theorem scf_l0 (p q : List (List Int)) (a b : List Int) (S1 S2 : List (List Int)) (P : List Int → List Int → Bool) (h1 : S1.length ≤ 1048576) (h2 : S2.length ≤ 1048576)
    (hp : ∀ s ∈ S1, ∀ o ∈ S2, ∃ v : Int, Ev (fun k => spec_l05More.f k p q a b s o) v ∧ P s o = decide (0 < v)) : ∀ (e i : Nat), i + e = S1.length →
    Ev (fun k => spec_CutFor.l0 k S1 S2 (i : Int) p q a b) (FST P S2 (S1.drop i)) := by
  intro e
  induction e with
  | zero =>
    intro i hi
    apply Ev.succ
    simp only [spec_CutFor.l0, if_neg (show ¬ (i : Int) < (S1.length : Int) by omega)]
    rw [List.drop_of_length_le (by omega)]
    exact Ev.now _
  | succ e ih =>
    intro i hi
    have hi' : i < S1.length := by omega
    have := ih (i + 1) (by omega)
    rw [Int.natCast_succ, ← inc hi' (by omega)] at this
    apply Ev.succ
    simp only [spec_CutFor.l0, if_pos (show (i : Int) < (S1.length : Int) by omega)]
    rw [dropD hi']
    exact scf_l1 p q a b S1 S2 i hi' P h2 (hp _ (getD_mem hi')) this S2.length 0 (by omega)


theorem within_eq (a b c : Int) : impl_within.f a b c = some (decide (b ≤ a ∧ a ≤ c)) := by
  unfold impl_within.f
  by_cases h : b ≤ a
  · rw [if_pos h]; simp [h]
  · rw [if_neg h]; simp [h]


theorem aw_l0 (l : List Int) (a b : Int) (hl : l.length ≤ 9223372036854775806) : ∀ (d i : Nat), d + i = l.length → ∃ r : Int, Ev (fun k => slices_IndexFunc_int64_int64_impl_areWithin_1.l0 k l (l.length : Int) i a b) r ∧ (decide (r ≥ 0) = !(l.drop i).all fun n => decide (a ≤ n ∧ n ≤ b)) := by
  intro d
  induction d with
  | zero =>
    intro i hd
    refine ⟨-1, ?_, ?_⟩
    · apply Ev.succ
      simp only [slices_IndexFunc_int64_int64_impl_areWithin_1.l0, if_neg (show ¬ (i : Int) < (l.length : Int) by omega)]
      exact Ev.now _
    · rw [List.drop_of_length_le (by omega)]; rfl
  | succ d ih =>
    intro i hd
    have hi : i < l.length := by omega
    obtain ⟨r, hr, he⟩ := ih (i + 1) (by omega)
    by_cases h : a ≤ l[i] ∧ l[i] ≤ b
    · refine ⟨r, ?_, ?_⟩
      · apply Ev.succ
        simp only [slices_IndexFunc_int64_int64_impl_areWithin_1.l0, if_pos (show (i : Int) < (l.length : Int) by omega), if_pos (show 0 ≤ (i : Int) by omega), rd_get hi, impl_areWithin_1.f, within_eq, decide_eq_true h, Option.bind_some, w64 (show (-9223372036854775808) ≤ (i : Int) + 1 by omega) (by omega)]
        simpa using hr
      · rw [he, List.drop_eq_getElem_cons hi, List.all_cons, decide_eq_true h, Bool.true_and]
    · refine ⟨i, ?_, ?_⟩
      · apply Ev.succ
        simp only [slices_IndexFunc_int64_int64_impl_areWithin_1.l0, if_pos (show (i : Int) < (l.length : Int) by omega), if_pos (show 0 ≤ (i : Int) by omega), rd_get hi, impl_areWithin_1.f, within_eq, decide_eq_false h, Option.bind_some]
        simpa using Ev.now _
      · rw [List.drop_eq_getElem_cons hi, List.all_cons, decide_eq_false h, Bool.false_and]; simp
theorem areWithin_ev (l : List Int) (a b : Int) (hl : l.length ≤ 9223372036854775806) : Ev (fun k => impl_areWithin.f k l a b) (l.all fun n => decide (a ≤ n ∧ n ≤ b)) := by
  obtain ⟨r, hr, he⟩ := aw_l0 l a b hl l.length 0 (by omega)
  unfold impl_areWithin.f
  simp only [slices_ContainsFunc_int64_int64_impl_areWithin_1.f, slices_IndexFunc_int64_int64_impl_areWithin_1.f]
  refine Ev.bind (Ev.bind hr (Ev.now _)) ?_
  refine (Ev.now _).to ?_
  rw [he, List.drop_zero, Bool.not_not]


def irowOk (n : Nat) (r : List Int) : Bool := decide (r.length = n) && r.all fun x => decide (0 ≤ x ∧ x ≤ 100000)
def iVT (d : Int) (l : List (List Int)) : Bool := decide (1 ≤ d ∧ d ≤ 1000) && (decide (1 ≤ (l.length : Int) ∧ (l.length : Int) ≤ 5) && (decide (1 ≤ ((l.headD []).length : Int) ∧ ((l.headD []).length : Int) ≤ 5) && l.all (irowOk (l.headD []).length)))
theorem rdl_get5 {xs : List (List Int)} {i : Nat} (h : i < xs.length) : rd_L1 xs (i : Int) = xs[i] := by
  unfold rd_L1; exact getD_get h
theorem rdl_head5 (xs : List (List Int)) : rd_L1 xs 0 = xs.headD [] := by
  unfold rd_L1; cases xs <;> rfl
theorem vt1_ev (r : List Int) (d : Int) (l : List (List Int)) (hp : 0 < l.length) (hr : r.length ≤ 1048576) : Ev (fun k => impl_ValidTable_1.f k r d l) (!irowOk (l.headD []).length r) := by
  unfold impl_ValidTable_1.f irowOk
  simp only [if_pos (show 0 < (l.length : Int) by omega), rdl_head5]
  by_cases e : r.length = (l.headD []).length
  · simp only [if_pos (show (r.length : Int) = (l.headD []).length by omega), decide_eq_true e, Bool.true_and]
    exact Ev.bind (areWithin_ev r 0 100000 (by omega)) (Ev.now _)
  · simp only [if_neg (show ¬ (r.length : Int) = (l.headD []).length by omega), decide_eq_false e, Bool.false_and, Bool.not_false]
    exact Ev.now _
theorem iVT_ev (d : Int) (l : List (List Int)) (hl : l.length ≤ 1048576) (hr : ∀ r ∈ l, r.length ≤ 1048576) : Ev (fun k => impl_ValidTable.f k d l) (iVT d l) := by
  unfold impl_ValidTable.f iVT
  simp only [within_eq, impl_size_int64_68.f, impl_size_int64_67.f, Option.bind_some, rdl_head5]
  by_cases h1 : 1 ≤ d ∧ d ≤ 1000
  · by_cases h2 : 1 ≤ (l.length : Int) ∧ (l.length : Int) ≤ 5
    · simp only [decide_eq_true h1, decide_eq_true h2, if_true, if_pos (show 0 < (l.length : Int) by omega), Bool.true_and]
      by_cases h3 : 1 ≤ ((l.headD []).length : Int) ∧ ((l.headD []).length : Int) ≤ 5
      · simp only [decide_eq_true h3, if_true, Bool.true_and]
        obtain ⟨r, hr1, hr2⟩ := find_loop l (fun x => !irowOk (l.headD []).length x) (fun k j => slices_IndexFunc_int64_int64_impl_ValidTable_1.l0 k l (l.length : Int) j d l)
          (by
            apply Ev.succ
            simp only [slices_IndexFunc_int64_int64_impl_ValidTable_1.l0, if_neg (show ¬ (l.length : Int) < l.length by omega)]
            exact Ev.now _)
          (fun i hi hp => by
            apply Ev.succ
            simp only [slices_IndexFunc_int64_int64_impl_ValidTable_1.l0, if_pos (show (i : Int) < (l.length : Int) by omega), if_pos (show 0 ≤ (i : Int) by omega), rdl_get5 hi]
            refine Ev.bind (vt1_ev l[i] d l (by omega) (hr _ (List.getElem_mem hi))) ?_
            simp only [hp, if_true]
            exact Ev.now _)
          (fun i hi hp r hr' => by
            apply Ev.succ
            simp only [slices_IndexFunc_int64_int64_impl_ValidTable_1.l0, if_pos (show (i : Int) < (l.length : Int) by omega), if_pos (show 0 ≤ (i : Int) by omega), rdl_get5 hi]
            refine Ev.bind (vt1_ev l[i] d l (by omega) (hr _ (List.getElem_mem hi))) ?_
            simp only [hp, Bool.false_eq_true, if_false, inc hi (by omega)]
            exact hr')
        simp only [slices_ContainsFunc_int64_int64_impl_ValidTable_1.f, slices_IndexFunc_int64_int64_impl_ValidTable_1.f]
        refine Ev.bind (Ev.bind hr1 (Ev.now _)) ?_
        refine (Ev.now _).to ?_
        rw [hr2, any_not, Bool.not_not]
      · simp only [decide_eq_false h3, Bool.false_eq_true, if_false, Bool.false_and]
        exact Ev.now _
    · simp only [decide_eq_true h1, decide_eq_false h2, if_true, Bool.false_eq_true, if_false, Bool.false_and, Bool.and_false]
      exact Ev.now _
  · simp only [decide_eq_false h1, Bool.false_eq_true, if_false, Bool.false_and]
    exact Ev.now _


theorem rdl_headAM (xs : List (List Int)) : rd_L1 xs 0 = xs.headD [] := by
  unfold rd_L1; cases xs <;> rfl
theorem areMargins_ev (d : Int) (T : List (List Int)) (a b : List Int) (hl : T.length ≤ 1048576) (hr : ∀ r ∈ T, r.length ≤ 1048576) (ha : a.length ≤ 1048576) (hb : b.length ≤ 1048576) : Ev (fun k => impl_areMargins.f k d T a b) (MGS d T a b) := by
  unfold impl_areMargins.f MGS MG
  refine Ev.bind ((iVT_ev d T hl hr).to (show iVT d T = VT d T from rfl)) ?_
  cases h : VT d T with
  | false =>
    simp only [Bool.false_eq_true, if_false, Bool.false_and]
    exact Ev.now _
  | true =>
    have f1 := (vt_facts h).1
    simp only [if_true, Bool.true_and]
    by_cases e1 : (a.length : Int) = (T.length : Int)
    · simp only [if_pos e1, if_pos (show 0 < (T.length : Int) by omega), rdl_headAM, decide_eq_true e1, Bool.and_true]
      by_cases e2 : (b.length : Int) = ((T.headD []).length : Int)
      · simp only [if_pos e2, decide_eq_true e2, Bool.and_true]
        refine Ev.bind (areWithin_ev a 0 1000000 (by omega)) ?_
        cases h2 : (a.all fun n => decide (0 ≤ n ∧ n ≤ 1000000)) with
        | false =>
          simp only [Bool.false_eq_true, if_false, Bool.false_and]
          exact Ev.now _
        | true =>
          simp only [if_true, Bool.true_and]
          exact Ev.bind (areWithin_ev b 0 1000000 (by omega)) (Ev.now _)
      · simp only [if_neg e2, decide_eq_false e2, Bool.and_false]
        exact Ev.now _
    · simp only [if_neg e1, decide_eq_false e1, Bool.and_false, Bool.false_and]
      exact Ev.now _


theorem isum_l0 (l : List Int) (hl : l.length ≤ 9223372036854775806) : ∀ (d i : Nat) (acc : Int), d + i = l.length → Ev (fun k => impl_sum.l0 k acc l (l.length : Int) i) (wsum acc (l.drop i)) := by
  intro d
  induction d with
  | zero =>
    intro i acc hd
    apply Ev.succ
    simp only [impl_sum.l0, if_neg (show ¬ (i : Int) < (l.length : Int) by omega)]
    rw [List.drop_of_length_le (by omega)]
    exact Ev.now _
  | succ d ih =>
    intro i acc hd
    have hi : i < l.length := by omega
    apply Ev.succ
    simp only [impl_sum.l0, if_pos (show (i : Int) < (l.length : Int) by omega), if_pos (show 0 ≤ (i : Int) by omega), rd_get hi, w64 (show (-9223372036854775808) ≤ (i : Int) + 1 by omega) (by omega)]
    rw [List.drop_eq_getElem_cons hi]
    exact ih (i + 1) _ (by omega)
theorem isum_ev (l : List Int) (hl : l.length ≤ 9223372036854775806) : Ev (fun k => impl_sum.f k l) (wsum 0 l) := by
  have := isum_l0 l hl l.length 0 0 (by omega)
  simpa [impl_sum.f] using this


theorem rdl_getS {xs : List (List Int)} {i : Nat} (h : i < xs.length) : rd_L1 xs (i : Int) = xs[i] := by
  unfold rd_L1; exact getD_get h
theorem sums_l0 (l : List (List Int)) (hl : l.length ≤ 1048576) (hr : ∀ r ∈ l, r.length ≤ 1048576) : ∀ (d i : Nat), d + i = l.length → Ev (fun k => impl_sums.l0 k ((l.take i).map (wsum 0)) l (l.length : Int) i) (l.map (wsum 0)) := by
  intro d
  induction d with
  | zero =>
    intro i hd
    apply Ev.succ
    simp only [impl_sums.l0, if_neg (show ¬ (i : Int) < (l.length : Int) by omega)]
    rw [List.take_of_length_le (by omega)]
    exact Ev.now _
  | succ d ih =>
    intro i hd
    have hi : i < l.length := by omega
    have hm := hr l[i] (List.getElem_mem hi)
    apply Ev.succ
    simp only [impl_sums.l0, if_pos (show (i : Int) < (l.length : Int) by omega), if_pos (show 0 ≤ (i : Int) by omega), rdl_getS hi, inc hi (by omega)]
    refine Ev.bind (isum_ev l[i] (by omega)) ?_
    simp only [if_pos (show ((l.take i).map (wsum 0)).length < 17592186044416 by simp; omega)]
    have := ih (i + 1) (by omega)
    rw [List.take_succ_eq_append_getElem hi, List.map_append] at this
    exact this
theorem sums_ev (l : List (List Int)) (hl : l.length ≤ 1048576) (hr : ∀ r ∈ l, r.length ≤ 1048576) : Ev (fun k => impl_sums.f k l) (l.map (wsum 0)) := by
  have := sums_l0 l hl hr l.length 0 (by omega)
  unfold impl_sums.f
  exact this


theorem rdl_getT {xs : List (List Int)} {i : Nat} : rd_L1 xs (i : Int) = xs.getD i [] := by
  unfold rd_L1; simp
theorem rdl_headT (xs : List (List Int)) : rd_L1 xs 0 = xs.headD [] := by
  unfold rd_L1; cases xs <;> rfl
theorem rd_getDT {xs : List Int} {i : Nat} : rd xs (i : Int) = xs.getD i 0 := by
  unfold rd; simp
def tcol (l : List (List Int)) (i k : Nat) : List Int := colOf (l.take i) k
theorem turned_l1 (l : List (List Int)) (m i : Nat) (hl : l.length ≤ 1048576) (hm : m ≤ 1048576) (hi : i < l.length) (hr : (l.getD i []).length = m) {R : List (List Int)} (hs : Ev (fun k => impl_turned.l0 k (stair (tcol l) m (i + 1) 0) l (l.length : Int) ((i : Int) + 1)) R) : ∀ (d j : Nat), d + j = m → Ev (fun k => impl_turned.l1 k (stair (tcol l) m i j) l (l.length : Int) i (l.getD i []) (m : Int) j) R := by
  intro d
  induction d with
  | zero =>
    intro j hd
    apply Ev.succ
    have e : j = m := by omega
    subst e
    simp only [impl_turned.l1, if_neg (show ¬ (j : Int) < (j : Int) by omega), inc hi (by omega), stair_end]
    exact hs
  | succ d ih =>
    intro j hd
    have hj : j < m := by omega
    have hlen : (tcol l i j).length ≤ 1048576 := by simp [tcol, colOf]; omega
    apply Ev.succ
    simp only [impl_turned.l1, if_pos (show (j : Int) < (m : Int) by omega), if_pos (show 0 ≤ (j : Int) by omega), if_pos (show (j : Int) < (l.getD i []).length by omega), stair_length, rdl_getT, stair_get (tcol l) m i j j hj, if_neg (show ¬ j < j by omega), if_pos (show (tcol l i j).length < 17592186044416 by omega), inc hj (by omega), Int.toNat_natCast, rd_getDT]
    have e : tcol l i j ++ [(l.getD i []).getD j 0] = tcol l (i + 1) j := (colOf_succ l i j hi).symm
    rw [e, stair_set (tcol l) m i j hj]
    exact ih (j + 1) (by omega)
theorem turned_l0 (l : List (List Int)) (m : Nat) (hl : l.length ≤ 1048576) (hm : m ≤ 1048576) (hr : ∀ i, i < l.length → (l.getD i []).length = m) : ∀ (d i : Nat), d + i = l.length → Ev (fun k => impl_turned.l0 k (stair (tcol l) m i 0) l (l.length : Int) i) ((List.range m).map (colOf l)) := by
  intro d
  induction d with
  | zero =>
    intro i hd
    apply Ev.succ
    simp only [impl_turned.l0, if_neg (show ¬ (i : Int) < (l.length : Int) by omega)]
    refine (Ev.now _).to ?_
    rw [stair_zero]
    refine List.map_congr_left fun k _ => ?_
    rw [tcol, List.take_of_length_le (by omega)]
  | succ d ih =>
    intro i hd
    have hi : i < l.length := by omega
    apply Ev.succ
    simp only [impl_turned.l0, if_pos (show (i : Int) < (l.length : Int) by omega), if_pos (show 0 ≤ (i : Int) by omega), rdl_getT, hr i hi]
    exact turned_l1 l m i hl hm hi (hr i hi) (ih (i + 1) (by omega)) m 0 (by omega)
theorem turned_ev (l : List (List Int)) (hn : 1 ≤ l.length) (hl : l.length ≤ 1048576) (hm : (l.headD []).length ≤ 1048576) (hr : ∀ i, i < l.length → (l.getD i []).length = (l.headD []).length) : Ev (fun k => impl_turned.f k l) ((List.range (l.headD []).length).map (colOf l)) := by
  unfold impl_turned.f
  simp only [if_pos (show 0 < (l.length : Int) by omega), rdl_headT, if_pos (show 0 ≤ ((l.headD []).length : Int) by omega), Int.toNat_natCast, if_pos (show (l.headD []).length ≤ 11728124029610 by omega)]
  have := turned_l0 l (l.headD []).length hl hm hr l.length 0 (by omega)
  rw [stair_zero] at this
  have e : (List.range (l.headD []).length).map (tcol l 0) = List.replicate (l.headD []).length [] := by
    apply List.ext_getElem
    · simp
    · intro k h1 h2
      simp [tcol, colOf]
  rw [e] at this
  exact this


theorem ifloor_eq {a b : Int} (hb : 0 < b) (h1 : -9223372036854775807 ≤ a) (h2 : a ≤ 9223372036854775807) : impl_floor.f a b = some (a / b) := by
  have r1 := tdiv_range hb h1 h2 (by omega)
  have hf := floorB (a := a) hb
  have e1 : wrap64 (a.tdiv b) = a.tdiv b := w64 (by omega) (by omega)
  unfold impl_floor.f
  rw [if_neg (by omega), e1]
  by_cases h : a.tmod b < 0
  · rw [if_pos h] at hf
    rw [if_pos h, w64 (by omega) (by omega), hf]
  · rw [if_neg h] at hf
    rw [if_neg h, hf]


theorem iceil_eq {a b : Int} (hb : 0 < b) (h1 : -1000000000000 ≤ a) (h2 : a ≤ 1000000000000) : impl_ceiling.f a b = some (ceilOf a b) := by
  have hr := ceil_range (m := 1000000000000) hb h1 h2 (by omega)
  unfold impl_ceiling.f ceilOf
  rw [w64 (show (-9223372036854775808) ≤ -a by omega) (by omega), ifloor_eq hb (by omega) (by omega), Option.bind_some, w64 (by omega) (by omega)]


theorem around_eq {d n : Int} (T : List (List Int)) (hd : 1 ≤ d ∧ d ≤ 1000) (h1 : -1000000000000 ≤ n) (h2 : n ≤ 1000000000000) : impl_Table_around.f d T n = some (n / d, ceilOf n d) := by
  unfold impl_Table_around.f
  rw [ifloor_eq (by omega) (by omega) (by omega), Option.bind_some, iceil_eq (by omega) h1 h2, Option.bind_some]


def SPN (d n : Int) : S64 := ⟨n / d, ceilOf n d⟩
theorem spans_l0 (d : Int) (T : List (List Int)) (l : List Int) (hd : 1 ≤ d ∧ d ≤ 1000) (hl : l.length ≤ 1048576) (hv : ∀ x ∈ l, 0 ≤ x ∧ x ≤ 10000000) : ∀ (e i : Nat), e + i = l.length → Ev (fun k => impl_Table_spansOf.l0 k ((l.take i).map (SPN d)) l (l.length : Int) i d T) (l.map (SPN d)) := by
  intro e
  induction e with
  | zero =>
    intro i he
    apply Ev.succ
    simp only [impl_Table_spansOf.l0, if_neg (show ¬ (i : Int) < (l.length : Int) by omega)]
    rw [List.take_of_length_le (by omega)]
    exact Ev.now _
  | succ e ih =>
    intro i he
    have hi : i < l.length := by omega
    have hx := hv l[i] (List.getElem_mem hi)
    have := ih (i + 1) (by omega)
    rw [List.take_succ_eq_append_getElem hi, List.map_append] at this
    apply Ev.succ
    simp only [impl_Table_spansOf.l0, if_pos (show (i : Int) < (l.length : Int) by omega), if_pos (show 0 ≤ (i : Int) by omega), rd_get hi, around_eq T hd (show -1000000000000 ≤ l[i] by omega) (by omega), Option.bind_some, if_pos (show ((l.take i).map (SPN d)).length < 8796093022208 by simp; omega), inc hi (by omega)]
    exact this
theorem spans_ev (d : Int) (T : List (List Int)) (l : List Int) (hd : 1 ≤ d ∧ d ≤ 1000) (hl : l.length ≤ 1048576) (hv : ∀ x ∈ l, 0 ≤ x ∧ x ≤ 10000000) : Ev (fun k => impl_Table_spansOf.f k d T l) (l.map (SPN d)) := by
  have := spans_l0 d T l hd hl hv l.length 0 (by omega)
  unfold impl_Table_spansOf.f
  exact this


theorem rdl_getL {xs : List (List Int)} {i : Nat} (h : i < xs.length) : rd_L1 xs (i : Int) = xs[i] := by
  unfold rd_L1; exact getD_get h
theorem limits_l0 (d : Int) (T : List (List Int)) (R C : List S64) (a b : Int) (hd : 1 ≤ d ∧ d ≤ 1000) (hn : T.length ≤ 5) (hr : ∀ r ∈ T, r.length ≤ 1048576 ∧ ∀ x ∈ r, 0 ≤ x ∧ x ≤ 100000) : ∀ (e i : Nat), e + i = T.length → Ev (fun k => impl_Table_limits.l0 k T (T.length : Int) i d T ((T.take i).map fun r => r.map (SPN d)) R C a b) (T.map fun r => r.map (SPN d), R, C, a, b) := by
  intro e
  induction e with
  | zero =>
    intro i he
    apply Ev.succ
    simp only [impl_Table_limits.l0, if_neg (show ¬ (i : Int) < (T.length : Int) by omega)]
    rw [List.take_of_length_le (by omega)]
    exact Ev.now _
  | succ e ih =>
    intro i he
    have hi : i < T.length := by omega
    have hx := hr T[i] (List.getElem_mem hi)
    have := ih (i + 1) (by omega)
    rw [List.take_succ_eq_append_getElem hi, List.map_append] at this
    apply Ev.succ
    simp only [impl_Table_limits.l0, if_pos (show (i : Int) < (T.length : Int) by omega), if_pos (show 0 ≤ (i : Int) by omega), rdl_getL hi]
    refine Ev.bind (spans_ev d T T[i] hd hx.1 (fun x h => by have := hx.2 x h; omega)) ?_
    simp only [if_pos (show ((T.take i).map fun r => r.map (SPN d)).length < 5864062014805 by simp; omega), inc hi (by omega)]
    exact this
def LIM (d : Int) (T : List (List Int)) : List (List S64) × List S64 × List S64 × Int × Int := (T.map fun r => r.map (SPN d), (T.map (wsum 0)).map (SPN d), ((List.range (T.headD []).length).map fun k => wsum 0 (colOf T k)).map (SPN d), wsum 0 (T.map (wsum 0)) / d, ceilOf (wsum 0 (T.map (wsum 0))) d)
theorem limits_ev (d : Int) (T : List (List Int)) (hd : 1 ≤ d ∧ d ≤ 1000) (hn1 : 1 ≤ T.length) (hn : T.length ≤ 5) (hm5 : (T.headD []).length ≤ 5) (hm : ∀ i, i < T.length → (T.getD i []).length = (T.headD []).length) (hv : ∀ i, i < T.length → ∀ x ∈ T.getD i [], 0 ≤ x ∧ x ≤ 100000) (hrT : ∀ r ∈ T, r.length ≤ 1048576) : Ev (fun k => impl_Table_limits.f k d T) (LIM d T) := by
  have hT := rows_bnd T (fun i hi => by rw [hm i hi]; exact hm5) hv
  have hb := wsum_bnd (n := 5) hT (by omega) (by simp; exact hn) (by omega)
  unfold impl_Table_limits.f LIM
  refine Ev.bind (sums_ev T (by omega) hrT) (Ev.bind (spans_ev d T _ hd (by rw [List.length_map]; omega) (fun x hx => by have := hT x hx; omega)) (Ev.bind (turned_ev T hn1 (by omega) (by omega) hm) (Ev.bind (sums_ev _ (by rw [List.length_map, List.length_range]; omega) (fun r hr' => ?_)) ?_)))
  · obtain ⟨k, _, rfl⟩ := List.mem_map.1 hr'
    simp [colOf]; omega
  · rw [List.map_map]
    refine Ev.bind (spans_ev d T _ hd (by rw [List.length_map, List.length_range]; omega) (fun x hx => ?_)) (Ev.bind (isum_ev _ (by rw [List.length_map]; omega)) ?_)
    · obtain ⟨k, hk, rfl⟩ := List.mem_map.1 hx
      have := col_bnd T hn hv k (fun i hi => by rw [hm i hi]; exact List.mem_range.1 hk)
      simp only [Function.comp]
      omega
    · simp only [around_eq T hd (show -1000000000000 ≤ wsum 0 (T.map (wsum 0)) by omega) (by omega), Option.bind_some]
      have := limits_l0 d T ((T.map (wsum 0)).map (SPN d)) (((List.range (T.headD []).length).map (wsum 0 ∘ colOf T)).map (SPN d)) (wsum 0 (T.map (wsum 0)) / d) (ceilOf (wsum 0 (T.map (wsum 0))) d) hd hn (fun r hr' => ?_) T.length 0 (by omega)
      · exact this
      · refine ⟨hrT r hr', ?_⟩
        obtain ⟨i, hi, rfl⟩ := List.getElem_of_mem hr'
        have := hv i hi
        rwa [show T.getD i [] = T[i] by simp [List.getD_eq_getElem?_getD, hi]] at this


theorem floors_l0 (den : Int) (nums l : List Int) (hd : 1 ≤ den ∧ den ≤ 1000) (hl : l.length ≤ 1048576) (hv : ∀ x ∈ l, -1000000 ≤ x ∧ x ≤ 1000000) : ∀ (e i : Nat), e + i = l.length → Ev (fun k => impl_Values_each_impl_Values_floors_1.l0 k ((l.take i).map fun x => x / den) l (l.length : Int) i den nums) (l.map fun x => x / den) := by
  intro e
  induction e with
  | zero =>
    intro i he
    apply Ev.succ
    simp only [impl_Values_each_impl_Values_floors_1.l0, if_neg (show ¬ (i : Int) < (l.length : Int) by omega)]
    rw [List.take_of_length_le (by omega)]
    exact Ev.now _
  | succ e ih =>
    intro i he
    have hi : i < l.length := by omega
    have hx := hv l[i] (List.getElem_mem hi)
    have := ih (i + 1) (by omega)
    rw [List.take_succ_eq_append_getElem hi, List.map_append] at this
    apply Ev.succ
    simp only [impl_Values_each_impl_Values_floors_1.l0, if_pos (show (i : Int) < (l.length : Int) by omega), if_pos (show 0 ≤ (i : Int) by omega), rd_get hi, impl_Values_floors_1.f, ifloor_eq (show 0 < den by omega) (show -9223372036854775807 ≤ l[i] by omega) (by omega), Option.bind_some, if_pos (show ((l.take i).map fun x => x / den).length < 17592186044416 by simp; omega), inc hi (by omega)]
    exact this
theorem floors_ev (den : Int) (l : List Int) (hd : 1 ≤ den ∧ den ≤ 1000) (hl : l.length ≤ 1048576) (hv : ∀ x ∈ l, -1000000 ≤ x ∧ x ≤ 1000000) : Ev (fun k => impl_Values_floors.f k den l) (l.map fun x => x / den) := by
  have := floors_l0 den l l hd hl hv l.length 0 (by omega)
  unfold impl_Values_floors.f impl_Values_each_impl_Values_floors_1.f
  exact Ev.bind this (Ev.now _)


theorem contains_ev (l : List Int) (x : Int) (hl : l.length ≤ 1048576) : Ev (fun k => slices_Contains_int64_int64.f k l x) (decide (x ∈ l)) := by
  have key : ∀ (d i : Nat), i + d = l.length → ∃ r : Int, Ev (fun k => slices_Index_int64_int64.l0 k l x (l.length : Int) (i : Int)) r ∧ decide (r ≥ 0) = decide (x ∈ l.drop i) := by
    intro d
    induction d with
    | zero =>
      intro i hi
      refine ⟨-1, ?_, ?_⟩
      · apply Ev.succ
        simp only [slices_Index_int64_int64.l0, if_neg (show ¬ (i : Int) < (l.length : Int) by omega)]
        exact Ev.now _
      · rw [List.drop_of_length_le (by omega)]; simp
    | succ d ih =>
      intro i hi
      have hi' : i < l.length := by omega
      rw [List.drop_eq_getElem_cons hi']
      by_cases c : x = l[i]
      · refine ⟨i, ?_, by rw [decide_eq_true (show (i : Int) ≥ 0 by omega), decide_eq_true (show x ∈ l[i] :: l.drop (i + 1) by rw [c]; exact List.mem_cons_self)]⟩
        apply Ev.succ
        simp only [slices_Index_int64_int64.l0, if_pos (show (i : Int) < (l.length : Int) by omega), if_pos (show 0 ≤ (i : Int) by omega), rd_get hi', if_pos c]
        exact Ev.now _
      · obtain ⟨r, h1, h2⟩ := ih (i + 1) (by omega)
        refine ⟨r, ?_, by rw [h2]; exact decide_eq_decide.2 ⟨fun h => List.mem_cons_of_mem _ h, fun h => (List.mem_cons.1 h).resolve_left c⟩⟩
        apply Ev.succ
        simp only [slices_Index_int64_int64.l0, if_pos (show (i : Int) < (l.length : Int) by omega), if_pos (show 0 ≤ (i : Int) by omega), rd_get hi', if_neg c, inc hi' (by omega)]
        exact h1
  obtain ⟨r, h1, h2⟩ := key l.length 0 (by omega)
  rw [List.drop_zero] at h2
  unfold slices_Contains_int64_int64.f slices_Index_int64_int64.f
  exact Ev.bind h1 ((Ev.now _).to h2)


theorem rdl_K {xs : List (List Int)} {i : Nat} (h : i < xs.length) : rd_L1 xs (i : Int) = xs[i] := by
  unfold rd_L1; exact getD_get h
theorem rd_K (xs : List Int) (x : Int) : rd xs x = xs.getD x.toNat 0 := id (Eq.refl _)
def COPEN (cells : List (List S64)) (os : List Int) (x : Int) (k : Nat) : Int := if ((cells.getD x.toNat []).getD k z64).f0 < ((cells.getD x.toNat []).getD k z64).f1 then (if (k : Int) ∈ os then 0 else 1) else 0
theorem rdT_K (xs : List S64) (i : Nat) : rd_T64 xs (i : Int) = xs.getD i z64 := by unfold rd_T64; simp
theorem icut_l3 (b cc : List Int) (H : Int) (os : List Int) (hos : os.length ≤ 1048576) (hc : cc.length = b.length) (ho : ∀ y ∈ os, 0 ≤ y ∧ y < (b.length : Int)) : ∀ (d j : Nat), j + d = os.length → ∀ X : Int,
    Ev (fun k => impl_isCut.l3 k b cc H (wrap64 X) os (os.length : Int) (j : Int)) (decide (H > wrap64 (X + ((os.drop j).map fun y => b.getD y.toNat 0 - cc.getD y.toNat 0).sum))) := by
  intro d
  induction d with
  | zero =>
    intro j hj X
    apply Ev.succ
    simp only [impl_isCut.l3, if_neg (show ¬ (j : Int) < (os.length : Int) by omega)]
    rw [List.drop_of_length_le (by omega), List.map_nil, List.sum_nil, Int.add_zero]
    exact Ev.now _
  | succ d ih =>
    intro j hj X
    have hj' : j < os.length := by omega
    have hy := ho _ (getD_mem (d := 0) hj')
    have := ih (j + 1) (by omega) (X + (b.getD (os.getD j 0).toNat 0 - cc.getD (os.getD j 0).toNat 0))
    rw [Int.natCast_succ] at this
    rw [sum_drop (fun y => b.getD y.toNat 0 - cc.getD y.toNat 0) hj', ← Int.add_assoc]
    apply Ev.succ
    simp only [impl_isCut.l3, if_pos (show (j : Int) < (os.length : Int) by omega), if_pos (show 0 ≤ (j : Int) by omega), rd_K, Int.toNat_natCast, if_pos hy.1, if_pos hy.2, hc, wr_addr, wr_add, inc hj' (by omega)]
    exact this
theorem icut_l2 (a b os rr cc : List Int) (cells : List (List S64)) (t1 t2 : List S64) (t3 t4 : Int) (ss : List Int) (H : Int) (hos : os.length ≤ 1048576) (hss : ss.length ≤ 1048576) (i : Nat) (hi : i < ss.length) (row : List S64) (hrow : row = cells.getD (ss.getD i 0).toNat []) (hm : row.length ≤ 1048576) {R : Bool} (X : Int)
    (hend : Ev (fun k => impl_isCut.l1 k a b os rr cc H (wrap64 (X + ((List.range row.length).map (COPEN cells os (ss.getD i 0))).sum)) ss (ss.length : Int) ((i : Int) + 1) cells t1 t2 t3 t4) R) : ∀ (d j : Nat), j + d = row.length → ∀ Y : Int, Y + (((List.range row.length).drop j).map (COPEN cells os (ss.getD i 0))).sum = X + ((List.range row.length).map (COPEN cells os (ss.getD i 0))).sum →
    Ev (fun k => impl_isCut.l2 k a b os rr cc H (wrap64 Y) ss (ss.length : Int) (i : Int) row (row.length : Int) (j : Int) cells t1 t2 t3 t4) R := by
  intro d
  induction d with
  | zero =>
    intro j hj Y hY
    rw [List.drop_of_length_le (by simp; omega), List.map_nil, List.sum_nil, Int.add_zero] at hY
    apply Ev.succ
    simp only [impl_isCut.l2, if_neg (show ¬ (j : Int) < (row.length : Int) by omega), inc hi (by omega)]
    rw [hY]
    exact hend
  | succ d ih =>
    intro j hj Y hY
    have hj' : j < row.length := by omega
    rw [sum_drop_range _ hj'] at hY
    have hco : COPEN cells os (ss.getD i 0) j = if (row.getD j z64).f0 < (row.getD j z64).f1 then (if (j : Int) ∈ os then 0 else 1) else 0 := by unfold COPEN; rw [← hrow]
    apply Ev.succ
    simp only [impl_isCut.l2, if_pos (show (j : Int) < (row.length : Int) by omega), if_pos (show 0 ≤ (j : Int) by omega), rdT_K, inc hj' (by omega)]
    by_cases c : (row.getD j z64).f0 < (row.getD j z64).f1
    · rw [if_pos c] at hco
      simp only [if_pos c]
      refine Ev.bind (contains_ev os (j : Int) hos) ?_
      by_cases c2 : (j : Int) ∈ os
      · rw [if_pos c2] at hco
        simp only [decide_eq_true c2, if_true]
        exact ih (j + 1) (by omega) Y (by omega)
      · rw [if_neg c2] at hco
        simp only [decide_eq_false c2, Bool.false_eq_true, if_false, wr_add]
        exact ih (j + 1) (by omega) _ (by omega)
    · rw [if_neg c] at hco
      simp only [if_neg c]
      exact ih (j + 1) (by omega) Y (by omega)
theorem icut_l1 (a b os rr cc : List Int) (cells : List (List S64)) (t1 t2 : List S64) (t3 t4 : Int) (ss : List Int) (m : Nat) (hos : os.length ≤ 1048576) (hss : ss.length ≤ 1048576) (hm : m ≤ 1048576) (ha : a.length = cells.length) (hrr : rr.length = cells.length) (hcc : cc.length = b.length) (hrows : ∀ i, i < cells.length → (cells.getD i []).length = m) (hs : ∀ x ∈ ss, 0 ≤ x ∧ x < (cells.length : Int)) (ho : ∀ y ∈ os, 0 ≤ y ∧ y < (b.length : Int)) : ∀ (d i : Nat), i + d = ss.length → ∀ X Y : Int,
    Ev (fun k => impl_isCut.l1 k a b os rr cc (wrap64 X) (wrap64 Y) ss (ss.length : Int) (i : Int) cells t1 t2 t3 t4) (decide (wrap64 (X + ((ss.drop i).map fun x => a.getD x.toNat 0 - rr.getD x.toNat 0).sum) > wrap64 (Y + ((ss.drop i).map fun x => ((List.range m).map (COPEN cells os x)).sum).sum + (os.map fun y => b.getD y.toNat 0 - cc.getD y.toNat 0).sum))) := by
  intro d
  induction d with
  | zero =>
    intro i hi X Y
    have := icut_l3 b cc (wrap64 X) os hos hcc ho os.length 0 (by omega) Y
    rw [List.drop_zero] at this
    apply Ev.succ
    simp only [impl_isCut.l1, if_neg (show ¬ (i : Int) < (ss.length : Int) by omega)]
    rw [List.drop_of_length_le (by omega), List.map_nil, List.map_nil, List.sum_nil, Int.add_zero, Int.add_zero]
    exact this
  | succ d ih =>
    intro i hi X Y
    have hi' : i < ss.length := by omega
    have hx := hs _ (getD_mem (d := 0) hi')
    have hrl := hrows (ss.getD i 0).toNat (by omega)
    have := ih (i + 1) (by omega) (X + (a.getD (ss.getD i 0).toNat 0 - rr.getD (ss.getD i 0).toNat 0)) (Y + ((List.range m).map (COPEN cells os (ss.getD i 0))).sum)
    rw [Int.natCast_succ] at this
    rw [sum_drop (fun x => a.getD x.toNat 0 - rr.getD x.toNat 0) hi', sum_drop (fun x => ((List.range m).map (COPEN cells os x)).sum) hi', ← Int.add_assoc, ← Int.add_assoc]
    have rl : rd_L6 cells (ss.getD i 0) = cells.getD (ss.getD i 0).toNat [] := rfl
    apply Ev.succ
    simp only [impl_isCut.l1, if_pos (show (i : Int) < (ss.length : Int) by omega), if_pos (show 0 ≤ (i : Int) by omega), rd_K, Int.toNat_natCast, if_pos hx.1, if_pos (show ss.getD i 0 < (a.length : Int) by omega), if_pos (show ss.getD i 0 < (rr.length : Int) by omega), if_pos hx.2, rl, wr_addr, wr_add]
    refine icut_l2 a b os rr cc cells t1 t2 t3 t4 ss _ hos hss i hi' _ rfl (by rw [hrl]; exact hm) Y ?_ m 0 (by rw [hrl]; omega) Y (by rw [List.drop_zero])
    rw [hrl]
    exact this
theorem icut_l0 (d : Int) (T : List (List Int)) (a b ss os : List Int) (cells : List (List S64)) (t1 t2 : List S64) (t3 t4 : Int) (m : Nat) (hd : 1 ≤ d ∧ d ≤ 1000) (hT : 1 ≤ T.length ∧ T.length ≤ 5) (hm5 : m ≤ 5) (hr : ∀ r ∈ T, r.length = m ∧ ∀ x ∈ r, 0 ≤ x ∧ x ≤ 100000) (hos : os.length ≤ 1048576) (hss : ss.length ≤ 1048576) (hcl : cells.length = T.length) (ha : a.length = T.length) (hb : b.length = m) (hrows : ∀ i, i < cells.length → (cells.getD i []).length = m) (hs : ∀ x ∈ ss, 0 ≤ x ∧ x < (T.length : Int)) (ho : ∀ y ∈ os, 0 ≤ y ∧ y < (b.length : Int)) : ∀ (e i : Nat), i + e = T.length →
    Ev (fun k => impl_isCut.l0 k a b ss os (FLO d (T.take i)) T (T.length : Int) (i : Int) d T cells t1 t2 t3 t4) (decide (wrap64 (ss.map fun x => a.getD x.toNat 0 - ((FLO d T).map (wsum 0)).getD x.toNat 0).sum > wrap64 ((ss.map fun x => ((List.range m).map (COPEN cells os x)).sum).sum + (os.map fun y => b.getD y.toNat 0 - (((List.range m).map (colOf (FLO d T))).map (wsum 0)).getD y.toNat 0).sum))) := by
  have hF : (FLO d T).length = T.length := by simp [FLO]
  have hFr : ∀ r ∈ FLO d T, r.length = m := by
    intro r h
    obtain ⟨r', h', rfl⟩ := List.mem_map.1 h
    rw [List.length_map]; exact (hr r' h').1
  have hFh : ((FLO d T).headD []).length = m := by
    cases hTT : T with
    | nil => rw [hTT] at hT; simp at hT
    | cons r rs => exact hFr _ (by rw [hTT]; simp [FLO])
  intro e
  induction e with
  | zero =>
    intro i hi
    have h1 := icut_l1 a b os ((FLO d T).map (wsum 0)) (((List.range m).map (colOf (FLO d T))).map (wsum 0)) cells t1 t2 t3 t4 ss m hos hss (by omega) (by omega) (by rw [List.length_map]; omega) (by rw [List.length_map, List.length_map, List.length_range]; omega) hrows (fun x h => by have := hs x h; omega) ho ss.length 0 (by omega) 0 0
    simp only [wr_zero, List.drop_zero, Int.zero_add] at h1
    apply Ev.succ
    simp only [impl_isCut.l0, if_neg (show ¬ (i : Int) < (T.length : Int) by omega)]
    rw [List.take_of_length_le (by omega)]
    refine Ev.bind (sums_ev (FLO d T) (by omega) (fun r h => by rw [hFr r h]; omega)) ?_
    refine Ev.bind (turned_ev (FLO d T) (by omega) (by omega) (by omega) (fun i h => by rw [hFr _ (getD_mem h), hFh])) ?_
    rw [hFh]
    refine Ev.bind (sums_ev ((List.range m).map (colOf (FLO d T))) (by rw [List.length_map, List.length_range]; omega) (fun r h => by
      obtain ⟨k, _, rfl⟩ := List.mem_map.1 h
      simp [colOf]; omega)) ?_
    exact h1
  | succ e ih =>
    intro i hi
    have hi' : i < T.length := by omega
    have hri := hr T[i] (List.getElem_mem hi')
    have := ih (i + 1) (by omega)
    have e1 : FLO d (T.take (i + 1)) = FLO d (T.take i) ++ [T[i].map fun x => x / d] := by
      unfold FLO; rw [List.take_succ_eq_append_getElem hi', List.map_append]; rfl
    rw [e1] at this
    apply Ev.succ
    simp only [impl_isCut.l0, if_pos (show (i : Int) < (T.length : Int) by omega), if_pos (show 0 ≤ (i : Int) by omega), rdl_K hi', inc hi' (by omega)]
    refine Ev.bind (floors_ev d T[i] hd (by omega) (fun x h => by have := hri.2 x h; omega)) ?_
    simp only [if_pos (show (FLO d (T.take i)).length < 5864062014805 by simp [FLO]; omega)]
    exact this


set_option maxRecDepth 100000 in
theorem subs_eq : ∀ n ∈ [(1 : Int), 2, 3, 4, 5], impl_subsets.f 400 n = some (SETS n) := by decide +kernel
theorem subs_ev (n : Int) (h : 1 ≤ n ∧ n ≤ 5) : Ev (fun k => impl_subsets.f k n) (SETS n) := ev_mono (subs_eq n (five h)) (impl_subsets.mono n)


theorem vt_rows {d : Int} {l : List (List Int)} (h : VT d l = true) : (1 ≤ d ∧ d ≤ 1000) ∧ (1 ≤ l.length ∧ l.length ≤ 5) ∧ (1 ≤ (l.headD []).length ∧ (l.headD []).length ≤ 5) ∧ ∀ r ∈ l, r.length = (l.headD []).length ∧ ∀ x ∈ r, 0 ≤ x ∧ x ≤ 100000 := by
  simp only [VT, rowOk, Bool.and_eq_true, List.all_eq_true, decide_eq_true_iff] at h
  obtain ⟨h1, h2, h3, h4⟩ := h
  exact ⟨h1, by omega, by omega, h4⟩
def MORE (d : Int) (T : List (List Int)) (a b ss os : List Int) : Int := (ss.map (LEFT (FLO d T) a)).sum - (ss.map (OPEN (FLO d T) (CEI d T) os b.length)).sum - (os.map (TAKE (FLO d T) b)).sum
structure CIN (d : Int) (T : List (List Int)) (a b ss os : List Int) : Prop where
  fd : 1 ≤ d ∧ d ≤ 1000
  fn : 1 ≤ T.length ∧ T.length ≤ 5
  fm : 1 ≤ (T.headD []).length ∧ (T.headD []).length ≤ 5
  fr : ∀ r ∈ T, r.length = (T.headD []).length ∧ ∀ x ∈ r, 0 ≤ x ∧ x ≤ 100000
  fa : a.length = T.length
  fb : b.length = (T.headD []).length
  fav : ∀ x ∈ a, 0 ≤ x ∧ x ≤ 1000000
  fbv : ∀ x ∈ b, 0 ≤ x ∧ x ≤ 1000000
  fsl : ss.length ≤ 1048576
  fol : os.length ≤ 1048576
  fs : ∀ x ∈ ss, 0 ≤ x ∧ x < (T.length : Int)
  fo : ∀ y ∈ os, 0 ≤ y ∧ y < (b.length : Int)
theorem flo_get {d : Int} {T : List (List Int)} {i : Nat} (h : i < T.length) : (FLO d T).getD i [] = (T.getD i []).map fun x => x / d := getD_map _ ([] : List Int) _ h
theorem cei_get {d : Int} {T : List (List Int)} {i : Nat} (h : i < T.length) : (CEI d T).getD i [] = (T.getD i []).map fun x => ceilOf x d := getD_map _ ([] : List Int) _ h
theorem div_rng {x d : Int} (hd : 1 ≤ d) (h : 0 ≤ x ∧ x ≤ 100000) : 0 ≤ x / d ∧ x / d ≤ 100000 := by
  have h1 : 0 ≤ x / d := Int.ediv_nonneg h.1 (by omega)
  have h2 := Int.ediv_le_self d h.1
  omega
section
variable {d : Int} {T : List (List Int)} {a b ss os : List Int}
theorem cin_gok (C : CIN d T a b ss os) : GOK (FLO d T) (CEI d T) a b := by
  have hn := C.fn; have hm := C.fm; have ha := C.fa; have hb := C.fb
  have e1 : (FLO d T).length = T.length := by simp [FLO]
  have e2 : (CEI d T).length = T.length := by simp [CEI]
  refine ⟨by omega, by omega, by omega, by omega, fun i h => ?_, fun i h => ?_⟩
  · rw [flo_get (by omega), List.length_map, (C.fr _ (getD_mem (by omega))).1]; omega
  · rw [cei_get (by omega), List.length_map, (C.fr _ (getD_mem (by omega))).1]; omega
theorem left_rng (C : CIN d T a b ss os) : ∀ x ∈ ss, -2000000 ≤ LEFT (FLO d T) a x ∧ LEFT (FLO d T) a x ≤ 2000000 := by
  intro x hx
  have hxx := C.fs x hx
  have h1 := C.fav _ (getD_mem (l := a) (i := x.toNat) (d := 0) (by have := C.fa; omega))
  have hlen : ((FLO d T).getD x.toNat []).length ≤ 5 := by rw [flo_get (by omega), List.length_map, (C.fr _ (getD_mem (by omega))).1]; exact C.fm.2
  have h2 := wsum_bnd (l := (FLO d T).getD x.toNat []) (B := 100000) (n := 5) (fun y hy => by
    rw [flo_get (by omega)] at hy
    obtain ⟨z, hz, rfl⟩ := List.mem_map.1 hy
    exact div_rng C.fd.1 ((C.fr _ (getD_mem (by omega))).2 z hz)) (by omega) hlen (by omega)
  unfold LEFT; omega
theorem open_eq (C : CIN d T a b ss os) (x : Int) (hx : x ∈ ss) (k : Nat) (hk : k < b.length) : OPEN1 (FLO d T) (CEI d T) os x k = COPEN (LIM d T).1 os x k := by
  have hxx := C.fs x hx
  have hl : ((T.getD x.toNat [])).length = b.length := by rw [(C.fr _ (getD_mem (by omega))).1, C.fb]
  have e0 : (LIM d T).1.getD x.toNat [] = (T.getD x.toNat []).map (SPN d) := getD_map _ ([] : List Int) _ (by omega)
  have e1 : ((T.getD x.toNat []).map (SPN d)).getD k z64 = SPN d ((T.getD x.toNat []).getD k 0) := getD_map _ (0 : Int) _ (by omega)
  unfold OPEN1 COPEN
  rw [e0, e1, flo_get (by omega), cei_get (by omega), getD_map _ (0 : Int) _ (by omega), getD_map _ (0 : Int) _ (by omega)]
  have hc := ceil_open (a := (T.getD x.toNat []).getD k 0) (show 0 < d by have := C.fd; omega)
  show _ = if (T.getD x.toNat []).getD k 0 / d < ceilOf ((T.getD x.toNat []).getD k 0) d then _ else _
  by_cases c : (k : Int) ∈ os
  · rw [if_pos c, if_pos c]; split <;> rfl
  · rw [if_neg c, if_neg c]; exact hc
theorem open_rng (C : CIN d T a b ss os) : ∀ x ∈ ss, -2000000 ≤ OPEN (FLO d T) (CEI d T) os b.length x ∧ OPEN (FLO d T) (CEI d T) os b.length x ≤ 2000000 := by
  intro x hx
  have h := sum_abs (OPEN1 (FLO d T) (CEI d T) os x) 1 (List.range b.length) (fun k hk => by
    rw [open_eq C x hx k (by simpa using hk)]
    unfold COPEN
    split
    · split <;> omega
    · omega)
  rw [List.length_range] at h
  have := C.fb; have := C.fm
  unfold OPEN; omega
theorem col_eq (C : CIN d T a b ss os) (y : Int) (hy : y ∈ os) : 0 ≤ ((List.range (FLO d T).length).map fun i => ((FLO d T).getD i []).getD y.toNat 0).sum ∧ ((List.range (FLO d T).length).map fun i => ((FLO d T).getD i []).getD y.toNat 0).sum ≤ 500000 := by
  have hyy := C.fo y hy
  have e1 : (FLO d T).length = T.length := by simp [FLO]
  have hn := C.fn
  have h := sum_bnd (l := (List.range (FLO d T).length).map fun i => ((FLO d T).getD i []).getD y.toNat 0) (B := 100000) (fun z hz => by
    obtain ⟨i, hi, rfl⟩ := List.mem_map.1 hz
    have hi' : i < T.length := by rw [e1] at hi; simpa using hi
    have hl : ((T.getD i [])).length = b.length := by rw [(C.fr _ (getD_mem hi')).1, C.fb]
    rw [flo_get hi', getD_map _ (0 : Int) _ (by omega)]
    exact div_rng C.fd.1 ((C.fr _ (getD_mem hi')).2 _ (getD_mem (by omega))))
  rw [List.length_map, List.length_range, e1] at h
  rw [e1]
  omega
theorem take_rng (C : CIN d T a b ss os) : ∀ y ∈ os, -2000000 ≤ TAKE (FLO d T) b y ∧ TAKE (FLO d T) b y ≤ 2000000 := by
  intro y hy
  have hyy := C.fo y hy
  have h1 := C.fbv _ (getD_mem (l := b) (i := y.toNat) (d := 0) (by omega))
  have h2 := col_eq C y hy
  unfold TAKE; omega
theorem spec_val (C : CIN d T a b ss os) : Ev (fun k => spec_l05More.f k (FLO d T) (CEI d T) a b ss os) (wrap64 (MORE d T a b ss os)) := by
  have e1 : (FLO d T).length = T.length := by simp [FLO]
  exact more_ev (cin_gok C) ss os C.fsl C.fol (fun x h => by have := C.fs x h; omega) C.fo (fun r h => by
    obtain ⟨r', h', rfl⟩ := List.mem_map.1 h
    have := (C.fr r' h').1; have := C.fm
    rw [List.length_map]; omega)
theorem more_rng (C : CIN d T a b ss os) : (-2097152000000 ≤ (ss.map (LEFT (FLO d T) a)).sum ∧ (ss.map (LEFT (FLO d T) a)).sum ≤ 2097152000000) ∧ (-2097152000000 ≤ (ss.map (OPEN (FLO d T) (CEI d T) os b.length)).sum ∧ (ss.map (OPEN (FLO d T) (CEI d T) os b.length)).sum ≤ 2097152000000) ∧ (-2097152000000 ≤ (os.map (TAKE (FLO d T) b)).sum ∧ (os.map (TAKE (FLO d T) b)).sum ≤ 2097152000000) := by
  have h1 := sum_abs _ 2000000 ss (left_rng C)
  have h2 := sum_abs _ 2000000 ss (open_rng C)
  have h3 := sum_abs _ 2000000 os (take_rng C)
  have := C.fsl; have := C.fol
  omega
theorem impl_val (C : CIN d T a b ss os) : Ev (fun k => impl_isCut.f k d T a b ss os) (decide (0 < MORE d T a b ss os)) := by
  have hn := C.fn; have hm := C.fm
  have hget : ∀ i, i < T.length → (T.getD i []).length = (T.headD []).length := fun i h => (C.fr _ (getD_mem h)).1
  have h0 := limits_ev d T C.fd hn.1 hn.2 hm.2 hget (fun i h => (C.fr _ (getD_mem h)).2) (fun r h => by have := (C.fr r h).1; omega)
  have hcl : (LIM d T).1.length = T.length := by simp [LIM]
  have h1 := icut_l0 d T a b ss os (LIM d T).1 (LIM d T).2.1 (LIM d T).2.2.1 (LIM d T).2.2.2.1 (LIM d T).2.2.2.2 (T.headD []).length C.fd hn hm.2 C.fr C.fol C.fsl hcl C.fa C.fb (fun i h => by
    have e0 : (LIM d T).1.getD i [] = (T.getD i []).map (SPN d) := getD_map _ ([] : List Int) _ (by omega)
    rw [e0, List.length_map]; exact hget i (by omega)) C.fs C.fo T.length 0 (by omega)
  unfold impl_isCut.f
  refine Ev.bind h0 ?_
  refine h1.to ?_
  have eX : (ss.map fun x => a.getD x.toNat 0 - ((FLO d T).map (wsum 0)).getD x.toNat 0) = ss.map (LEFT (FLO d T) a) := by
    apply List.map_congr_left
    intro x hx
    have hxx := C.fs x hx
    have e1 : (FLO d T).length = T.length := by simp [FLO]
    rw [getD_map (wsum 0) ([] : List Int) _ (by omega)]
    rfl
  have eY : (ss.map fun x => ((List.range (T.headD []).length).map (COPEN (LIM d T).1 os x)).sum) = ss.map (OPEN (FLO d T) (CEI d T) os b.length) := by
    apply List.map_congr_left
    intro x hx
    unfold OPEN
    rw [C.fb]
    congr 1
    apply List.map_congr_left
    intro k hk
    exact (open_eq C x hx k (by rw [C.fb]; simpa using hk)).symm
  have eZ : (os.map fun y => b.getD y.toNat 0 - (((List.range (T.headD []).length).map (colOf (FLO d T))).map (wsum 0)).getD y.toNat 0) = os.map (TAKE (FLO d T) b) := by
    apply List.map_congr_left
    intro y hy
    have hyy := C.fo y hy
    have hb := C.fb
    rw [getD_map (wsum 0) ([] : List Int) _ (by rw [List.length_map, List.length_range]; omega), getD_range _ _ (by omega), wsum0, col_sum]
    have := col_eq C y hy
    rw [w64 (by omega) (by omega)]
    rfl
  rw [eX, eY, eZ]
  obtain ⟨r1, r2, r3⟩ := more_rng C
  rw [w64 (by omega) (by omega), w64 (by omega) (by omega)]
  apply decide_eq_decide.2
  unfold MORE
  omega
end
theorem mgs_facts {d : Int} {T : List (List Int)} {a b : List Int} (h : MGS d T a b = true) : VT d T = true ∧ (a.length = T.length ∧ ∀ x ∈ a, 0 ≤ x ∧ x ≤ 1000000) ∧ (b.length = (T.headD []).length ∧ ∀ x ∈ b, 0 ≤ x ∧ x ≤ 1000000) := by
  simp only [MGS, MG, Bool.and_eq_true, List.all_eq_true, decide_eq_true_eq] at h
  obtain ⟨h1, ⟨h2, h3⟩, h4, h5⟩ := h
  exact ⟨h1, ⟨by omega, h2⟩, by omega, h4⟩
theorem cin_of {d : Int} {T : List (List Int)} {a b ss os : List Int} (h : MGS d T a b = true) (hs : RSET ss ((T.length : Int) - 1) = true) (ho : RSET os (((T.headD []).length : Int) - 1) = true) (sl : ss.length ≤ 1048576) (ol : os.length ≤ 1048576) : CIN d T a b ss os := by
  obtain ⟨h1, h2, h3⟩ := mgs_facts h
  obtain ⟨v1, v2, v3, v4⟩ := vt_rows h1
  exact ⟨v1, v2, v3, v4, h2.1, h3.1, h2.2, h3.2, sl, ol, fun x hx => by have := rs_mem hs x hx; omega, fun y hy => by have := rs_mem ho y hy; have := h3.1; omega⟩
def CF (d : Int) (T : List (List Int)) (a b : List Int) : List Int × List Int × Bool := if MGS d T a b = true then (if wsum 0 a = wsum 0 b then FST (fun s o => decide (0 < MORE d T a b s o)) (SETS (b.length : Int)) (SETS (a.length : Int)) else ([], [], false)) else ([], [], false)
theorem sets_C {d : Int} {T : List (List Int)} {a b : List Int} (h : MGS d T a b = true) : (1 ≤ (a.length : Int) ∧ (a.length : Int) ≤ 5) ∧ (1 ≤ (b.length : Int) ∧ (b.length : Int) ≤ 5) ∧ ∀ s ∈ SETS (a.length : Int), ∀ o ∈ SETS (b.length : Int), CIN d T a b s o := by
  obtain ⟨h1, h2, h3⟩ := mgs_facts h
  obtain ⟨v1, v2, v3, v4⟩ := vt_rows h1
  have A : 1 ≤ (a.length : Int) ∧ (a.length : Int) ≤ 5 := by omega
  have B : 1 ≤ (b.length : Int) ∧ (b.length : Int) ≤ 5 := by omega
  refine ⟨A, B, fun s hs o ho => ?_⟩
  have h4 := (sets_in _ (five A)).2 s hs
  have h5 := (sets_in _ (five B)).2 o ho
  have e1 : (a.length : Int) = (T.length : Int) := by omega
  have e2 : (b.length : Int) = ((T.headD []).length : Int) := by omega
  rw [e1] at h4
  rw [e2] at h5
  exact cin_of h h4.1 h5.1 (by omega) (by omega)
theorem fst_len (p : List Int → List Int → Bool) (S2 : List (List Int)) (h2 : ∀ o ∈ S2, o.length ≤ 5) : ∀ S1 : List (List Int), (∀ s ∈ S1, s.length ≤ 5) → (FST p S2 S1).1.length ≤ 5 ∧ (FST p S2 S1).2.1.length ≤ 5
  | [], _ => by simp [FST]
  | s :: S, h => by
    unfold FST
    split
    · rename_i o ho
      exact ⟨h s List.mem_cons_self, h2 o (List.mem_of_find?_eq_some ho)⟩
    · exact fst_len p S2 h2 S (fun x hx => h x (List.mem_cons_of_mem _ hx))
theorem cf_len (d : Int) (T : List (List Int)) (a b : List Int) : (CF d T a b).1.length ≤ 5 ∧ (CF d T a b).2.1.length ≤ 5 := by
  unfold CF
  split
  · rename_i h
    split
    · obtain ⟨A, B, _⟩ := sets_C h
      exact fst_len _ _ (fun o ho => ((sets_in _ (five B)).2 o ho).2) _ (fun s hs => ((sets_in _ (five A)).2 s hs).2)
    · simp
  · simp
section
variable (d : Int) (T : List (List Int)) (a b : List Int) (hl : T.length ≤ 1048576) (hr : ∀ r ∈ T, r.length ≤ 1048576) (ha : a.length ≤ 1048576) (hb : b.length ≤ 1048576)
include hl hr ha hb
theorem cf_impl : Ev (fun k => impl_CutFor.f k d T a b) (CF d T a b) := by
  unfold impl_CutFor.f CF
  refine Ev.bind (areMargins_ev d T a b hl hr ha hb) ?_
  have bad : Ev (fun k => impl_CutFor.j0 k a b true d T) ([], [], false) := by
    apply Ev.succ
    simp only [impl_CutFor.j0, if_true]
    exact Ev.now _
  by_cases h : MGS d T a b = true
  · rw [if_pos h]
    simp only [if_pos h]
    refine Ev.bind (isum_ev a (by omega)) (Ev.bind (isum_ev b (by omega)) ?_)
    by_cases e : wsum 0 a = wsum 0 b
    · rw [if_pos e]
      obtain ⟨A, B, C⟩ := sets_C h
      have l1 := (sets_in _ (five A)).1
      have l2 := (sets_in _ (five B)).1
      apply Ev.succ
      simp only [e, bne_self_eq_false, impl_CutFor.j0, Bool.false_eq_true, if_false]
      refine Ev.bind (subs_ev _ A) ?_
      exact icf_l0 d T a b (SETS (a.length : Int)) (SETS (b.length : Int)) _ (by omega) (by omega) (subs_ev _ B) (fun s hs o ho => impl_val (C s hs o ho)) (SETS (a.length : Int)).length 0 (by omega)
    · rw [if_neg e]
      simp only [bne_iff_ne.2 e]
      exact bad
  · rw [if_neg h]
    simp only [if_neg h]
    exact bad
theorem cf_spec : Ev (fun k => spec_CutFor.f k d T a b) (CF d T a b) := by
  unfold spec_CutFor.f CF
  refine Ev.bind (margins_ev d T a b hl hr ha hb) ?_
  have bad : Ev (fun k => spec_CutFor.j0 k a b true d T) ([], [], false) := by
    apply Ev.succ
    simp only [spec_CutFor.j0, if_true]
    exact Ev.now _
  by_cases h : MGS d T a b = true
  · rw [if_pos h]
    simp only [if_pos h]
    refine Ev.bind (ssum_ev a (by omega)) (Ev.bind (ssum_ev b (by omega)) ?_)
    by_cases e : wsum 0 a = wsum 0 b
    · rw [if_pos e]
      obtain ⟨A, B, C⟩ := sets_C h
      obtain ⟨h1, h2, h3⟩ := mgs_facts h
      obtain ⟨v1, v2, v3, v4⟩ := vt_rows h1
      have l1 := (sets_in _ (five A)).1
      have l2 := (sets_in _ (five B)).1
      apply Ev.succ
      simp only [e, bne_self_eq_false, spec_CutFor.j0, Bool.false_eq_true, if_false, spec_l05With.f]
      refine Ev.bind (Ev.bind (bounds_ev d T v1 v2.2 (fun r h => ⟨by have := (v4 r h).1; omega, (v4 r h).2⟩)) (Ev.now _)) ?_
      refine Ev.bind (lsets_ev _ A) (Ev.bind (lsets_ev _ B) ?_)
      refine scf_l0 (FLO d T) (CEI d T) a b (SETS (a.length : Int)) (SETS (b.length : Int)) _ (by omega) (by omega) (fun s hs o ho => ⟨_, spec_val (C s hs o ho), ?_⟩) (SETS (a.length : Int)).length 0 (by omega)
      obtain ⟨q1, q2, q3⟩ := more_rng (C s hs o ho)
      rw [w64 (by unfold MORE; omega) (by unfold MORE; omega)]
    · rw [if_neg e]
      simp only [bne_iff_ne.2 e]
      exact bad
  · rw [if_neg h]
    simp only [if_neg h]
    exact bad
end
theorem FnExactCutFor : laws_FnExactCutFor.Pure := by
  intro d T a b _ hl hw ha _ hb _
  apply Ev.rounds
  unfold laws_FnExactCutFor.f
  by_cases c1 : (a.length : Int) > 1048576
  · simp only [if_pos c1]; exact Ev.now _
  by_cases c2 : (b.length : Int) > 1048576
  · simp only [if_neg c1, if_pos c2]; exact Ev.now _
  simp only [if_neg c1, if_neg c2]
  obtain ⟨s, hs0, hs2⟩ := szTable_ev d T hl (fun r h => (hw r h).1) 1048576 (by omega) (by omega)
  refine Ev.bind hs0 ?_
  rcases hs2 with rfl | ⟨h0, h1, h2, h3⟩
  · simp only [if_pos (show (-1 : Int) < 0 by omega)]
    exact Ev.now _
  simp only [if_neg (show ¬ s < 0 by omega)]
  have ht := toTable_ev d T h2 h3
  have ta := toInt64S_ev a (by omega)
  have tb := toInt64S_ev b (by omega)
  have hsp := cf_spec d T a b h2 h3 (by omega) (by omega)
  have him := cf_impl d T a b h2 h3 (by omega) (by omega)
  obtain ⟨n1, n2⟩ := cf_len d T a b
  have e1 := eqInt64S_ev (CF d T a b).1 (CF d T a b).1 (by omega)
  have e2 := eqInt64S_ev (CF d T a b).2.1 (CF d T a b).2.1 (by omega)
  have g1 := heldInt64S_ev 1 (CF d T a b).1.length (by omega) (by omega) (by omega)
  have g2 := heldInt64S_ev (1 + ((CF d T a b).1.length : Int)) (CF d T a b).2.1.length (by omega) (by omega) (by omega)
  obtain ⟨m, hm, hm0, hm1⟩ := markTableB_ev d T h2 h3
  refine Ev.bind ht (Ev.bind ta (Ev.bind tb (Ev.bind hsp (Ev.bind ht (Ev.bind ta (Ev.bind tb (Ev.bind him (Ev.bind e1 ?_))))))))
  simp only [decide_true, if_true]
  refine Ev.bind e2 ?_
  simp only [decide_true, if_true, bne_self_eq_false]
  apply Ev.succ
  simp only [laws_FnExactCutFor.j0, Bool.false_eq_true, if_false]
  refine Ev.bind ht (Ev.bind (eqTable_ev d T h2 h3) ?_)
  simp only [if_true]
  refine Ev.bind ta (Ev.bind (eqInt64S_ev a a (by omega)) ?_)
  simp only [decide_true, if_true]
  refine Ev.bind tb (Ev.bind (eqInt64S_ev b b (by omega)) ?_)
  simp only [decide_true, if_true]
  refine Ev.bind hm (Ev.bind (markInt64S_ev a m (by omega) hm0 (by omega)) (Ev.bind (markInt64S_ev b (m + (a.length : Int)) (by omega) (by omega) (by omega)) ?_))
  simp only [if_neg (show ¬ m + (a.length : Int) + (b.length : Int) < 0 by omega)]
  refine Ev.bind e1 ?_
  simp only [decide_true, if_true]
  refine Ev.bind e2 ?_
  simp only [decide_true, if_true, bne_self_eq_false]
  apply Ev.succ
  simp only [laws_FnExactCutFor.j1, Bool.false_eq_true, if_false]
  refine Ev.bind (markInt64S_ev (CF d T a b).1 1 (by omega) (by omega) (by omega)) (Ev.bind (markInt64S_ev (CF d T a b).2.1 (1 + ((CF d T a b).1.length : Int)) (by omega) (by omega) (by omega)) (Ev.bind g1 ?_))
  simp only [if_neg (show ¬ (1 + ((CF d T a b).1.length : Int)) < 0 by omega)]
  refine Ev.bind g2 ?_
  simp only [if_neg (show ¬ (1 + ((CF d T a b).1.length : Int) + ((CF d T a b).2.1.length : Int)) < 0 by omega), if_true]
  refine Ev.bind ht (Ev.bind ta (Ev.bind tb (Ev.bind him (Ev.bind e1 ?_))))
  simp only [decide_true, if_true]
  refine Ev.bind e2 ?_
  simp only [decide_true, if_true, bne_self_eq_false]
  apply Ev.succ
  simp only [laws_FnExactCutFor.j2, Bool.false_eq_true, if_false]
  refine Ev.bind g1 ?_
  simp only [if_neg (show ¬ (1 + ((CF d T a b).1.length : Int)) < 0 by omega)]
  refine Ev.bind g2 ?_
  simp only [if_neg (show ¬ (1 + ((CF d T a b).1.length : Int) + ((CF d T a b).2.1.length : Int)) < 0 by omega), if_true]
  exact Ev.now _


end Go.Proofs.Ytmjabeddommiaaa.Pure
