/- Proved: the pure half of the law FnExactSumWeights: the printed functions answer true, for every input. No condition. -/
import Derived.Test.YtlhpejabdmejbaaPFnExactSumWeightsx11
import Derived.Test.YtlhpejabdmejbaaBase
import Derived.Test.YtlhpejabdmejbaaLists
import Derived.Test.YtlhpejabdmejbaaMarks
import Derived.Test.YtlhpejabdmejbaaGap
import Derived.Test.YtlhpejabdmejbaaPoints
import Derived.Test.YtlhpejabdmejbaaKeyed
import Derived.Test.YtlhpejabdmejbaaPsum
import Derived.Test.YtlhpejabdmejbaaMix
namespace Go.Proofs.Ytlhpejabdmejbaa.Pure
open Go.RowKit Go.Proofs.Ytlhpejabdmejbaa.PFnExactSumWeights Go.Proofs.YtlhpejabdmejbaaW.PrintWords Go.Proofs.YtlhpejabdmejbaaW.PrintLast Go.Proofs.YtlhpejabdmejbaaW.PrintMore Go.Proofs.Ytlhpejabdmejbaa.Base
set_option linter.unusedVariables false
set_option linter.unusedSimpArgs false

/-! laws.szInt64S -/
theorem szS_eq (l : List Int) (a : Int) (hl : l.length ≤ 9223372036854775807) (h0 : 0 ≤ a) (h1 : a ≤ 1048576) : laws_szInt64S.f l a = some (if a < l.length then -1 else a - l.length) := by
  unfold laws_szInt64S.f
  rw [w64 (by omega) (by omega)]
  by_cases h : a < l.length
  · rw [if_pos (by omega), if_pos h]
  · rw [if_neg (by omega), if_neg h]

/-! laws.szInt64SS -/
theorem rdl_get {xs : List (List Int)} {i : Nat} (h : i < xs.length) : rd_L1 xs (i : Int) = xs[i] := by
  unfold rd_L1; exact getD_get h
theorem szSS_l0 (l : List (List Int)) (a : Int) (hl : l.length ≤ 1048576) (hr : ∀ r ∈ l, r.length ≤ 9223372036854775807) (h1 : a ≤ 1048576) : ∀ (d i : Nat) (b : Int), d + i = l.length → 0 ≤ b → b ≤ a → (∀ (j : Nat) (h : j < l.length), j < i → ((l[j]).length : Int) ≤ a) → ∃ r : Int, Ev (fun k => laws_szInt64SS.l0 k l b i) r ∧ (r = -1 ∨ (0 ≤ r ∧ r ≤ a ∧ ∀ x ∈ l, (x.length : Int) ≤ a)) := by
  intro d
  induction d with
  | zero =>
    intro i b hd h0 hb hj
    refine ⟨b, ?_, .inr ⟨h0, hb, fun x hx => ?_⟩⟩
    · apply Ev.succ
      simp only [laws_szInt64SS.l0, if_neg (show ¬ (i : Int) < (l.length : Int) by omega)]
      exact Ev.now _
    · obtain ⟨j, hj', rfl⟩ := List.getElem_of_mem hx
      exact hj j hj' (by omega)
  | succ d ih =>
    intro i b hd h0 hb hj
    have hi : i < l.length := by omega
    have hri := hr l[i] (List.getElem_mem hi)
    by_cases h : b < (l[i]).length
    · refine ⟨-1, ?_, .inl rfl⟩
      apply Ev.succ
      simp only [laws_szInt64SS.l0, if_pos (show (i : Int) < (l.length : Int) by omega), if_pos (show 0 ≤ (i : Int) by omega), rdl_get hi, szS_eq l[i] b hri h0 (by omega), if_pos h, Option.bind_some, if_pos (show (-1 : Int) < 0 by omega)]
      exact Ev.now _
    · obtain ⟨r, hr1, hr2⟩ := ih (i + 1) (b - (l[i]).length) (by omega) (by omega) (by omega) (fun j hj1 hj2 => by
        by_cases e : j = i
        · subst e; omega
        · exact hj j hj1 (by omega))
      refine ⟨r, ?_, hr2⟩
      apply Ev.succ
      simp only [laws_szInt64SS.l0, if_pos (show (i : Int) < (l.length : Int) by omega), if_pos (show 0 ≤ (i : Int) by omega), rdl_get hi, szS_eq l[i] b hri h0 (by omega), if_neg h, Option.bind_some, if_neg (show ¬ b - (l[i]).length < 0 by omega), w64 (show (-9223372036854775808) ≤ (i : Int) + 1 by omega) (by omega)]
      exact hr1
theorem szSS_ev (l : List (List Int)) (a : Int) (hl : l.length ≤ 9223372036854775807) (hr : ∀ r ∈ l, r.length ≤ 9223372036854775807) (h0 : 0 ≤ a) (h1 : a ≤ 1048576) : ∃ r : Int, Ev (fun k => laws_szInt64SS.f k l a) r ∧ (r = -1 ∨ (0 ≤ r ∧ r ≤ a ∧ l.length ≤ 1048576 ∧ ∀ x ∈ l, x.length ≤ 1048576)) := by
  unfold laws_szInt64SS.f
  rw [w64 (show (-9223372036854775808) ≤ a - (l.length : Int) by omega) (by omega)]
  by_cases h : a - (l.length : Int) < 0
  · simp only [if_pos h]
    exact ⟨-1, Ev.now _, .inl rfl⟩
  · simp only [if_neg h]
    obtain ⟨r, h1', h2⟩ := szSS_l0 l a (by omega) hr h1 l.length 0 (a - l.length) (by omega) (by omega) (by omega) (fun j _ hj => by omega)
    refine ⟨r, h1', ?_⟩
    rcases h2 with h2 | ⟨h2, h3, h4⟩
    · exact .inl h2
    · exact .inr ⟨h2, h3, by omega, fun x hx => by have := h4 x hx; omega⟩

/-! laws.szMixture -/
theorem szMixture_ev (ws : List Int) (l : List (List Int)) (hw : ws.length ≤ 9223372036854775807) (hl : l.length ≤ 9223372036854775807) (hr : ∀ r ∈ l, r.length ≤ 9223372036854775807) (a : Int) (h0 : 0 ≤ a) (h1 : a ≤ 1048576) : ∃ r : Int, Ev (fun k => laws_szMixture.f k ws l a) r ∧ (r = -1 ∨ (0 ≤ r ∧ r ≤ a ∧ ws.length ≤ 1048576 ∧ l.length ≤ 1048576 ∧ ∀ x ∈ l, x.length ≤ 1048576)) := by
  unfold laws_szMixture.f
  simp only [szS_eq ws a hw h0 (by omega), Option.bind_some]
  by_cases h : a < ws.length
  · simp only [if_pos h, if_pos (show (-1 : Int) < 0 by omega)]
    exact ⟨-1, Ev.now _, .inl rfl⟩
  · simp only [if_neg h, if_neg (show ¬ a - (ws.length : Int) < 0 by omega)]
    obtain ⟨r, h2, h3⟩ := szSS_ev l (a - ws.length) hl hr (by omega) (by omega)
    refine ⟨r, Ev.bind h2 ?_, ?_⟩
    · rcases h3 with rfl | h3
      · exact Ev.now _
      · simp only [if_neg (show ¬ r < 0 by omega)]
        exact Ev.now _
    · rcases h3 with h3 | ⟨h3, h4, h5, h6⟩
      · exact .inl h3
      · exact .inr ⟨h3, by omega, by omega, h5, h6⟩

/-! laws.toInt64S -/
theorem to_step (l : List Int) (i : Nat) (hi : i < l.length) : (l.take i ++ List.replicate (l.length - i) 0).set i l[i] = l.take (i + 1) ++ List.replicate (l.length - (i + 1)) 0 := by
  rw [show l.length - i = (l.length - (i + 1)) + 1 by omega, List.replicate_succ, List.set_append, if_neg (by simp; omega), List.length_take, Nat.min_eq_left (by omega), Nat.sub_self, List.set_cons_zero, List.take_succ_eq_append_getElem hi, List.append_assoc]
  rfl
theorem to_l0 (l : List Int) (hl : l.length ≤ 35184372088832) : ∀ (d i : Nat), d + i = l.length → Ev (fun k => laws_toInt64S.l0 k l (l.take i ++ List.replicate (l.length - i) 0) i) l := by
  intro d
  induction d with
  | zero =>
    intro i hd
    apply Ev.succ
    simp only [laws_toInt64S.l0, if_neg (show ¬ (i : Int) < (l.length : Int) by omega)]
    rw [List.take_of_length_le (by omega), show l.length - i = 0 by omega]
    simpa using Ev.now l
  | succ d ih =>
    intro i hd
    have hi : i < l.length := by omega
    apply Ev.succ
    simp only [laws_toInt64S.l0, if_pos (show (i : Int) < (l.length : Int) by omega), if_pos (show 0 ≤ (i : Int) by omega), if_pos (show (i : Int) < ((l.take i ++ List.replicate (l.length - i) (0 : Int)).length : Int) by simp; omega), rd_get hi, w64 (show (-9223372036854775808) ≤ (i : Int) + 1 by omega) (by omega), Int.toNat_natCast, to_step l i hi]
    exact ih (i + 1) (by omega)
theorem toInt64S_ev (l : List Int) (hl : l.length ≤ 35184372088832) : Ev (fun k => laws_toInt64S.f k l) l := by
  simp only [laws_toInt64S.f, if_pos (show 0 ≤ (l.length : Int) by omega), Int.toNat_natCast, if_pos hl]
  have := to_l0 l hl l.length 0 (by omega)
  simpa using this

/-! laws.toInt64SS -/
theorem toss_step (l : List (List Int)) (i : Nat) (hi : i < l.length) : (l.take i ++ List.replicate (l.length - i) []).set i l[i] = l.take (i + 1) ++ List.replicate (l.length - (i + 1)) [] := by
  rw [show l.length - i = (l.length - (i + 1)) + 1 by omega, List.replicate_succ, List.set_append, if_neg (by simp; omega), List.length_take, Nat.min_eq_left (by omega), Nat.sub_self, List.set_cons_zero, List.take_succ_eq_append_getElem hi, List.append_assoc]
  rfl
theorem rdl_get2 {xs : List (List Int)} {i : Nat} (h : i < xs.length) : rd_L1 xs (i : Int) = xs[i] := by
  unfold rd_L1; exact getD_get h
theorem toss_l0 (l : List (List Int)) (hl : l.length ≤ 1048576) (hr : ∀ r ∈ l, r.length ≤ 1048576) : ∀ (d i : Nat), d + i = l.length → Ev (fun k => laws_toInt64SS.l0 k l (l.take i ++ List.replicate (l.length - i) []) i) l := by
  intro d
  induction d with
  | zero =>
    intro i hd
    apply Ev.succ
    simp only [laws_toInt64SS.l0, if_neg (show ¬ (i : Int) < (l.length : Int) by omega)]
    rw [List.take_of_length_le (by omega), show l.length - i = 0 by omega]
    simpa using Ev.now l
  | succ d ih =>
    intro i hd
    have hi : i < l.length := by omega
    have hri := hr l[i] (List.getElem_mem hi)
    apply Ev.succ
    simp only [laws_toInt64SS.l0, if_pos (show (i : Int) < (l.length : Int) by omega), if_pos (show 0 ≤ (i : Int) by omega), if_pos (show (i : Int) < ((l.take i ++ List.replicate (l.length - i) ([] : List Int)).length : Int) by simp; omega), rdl_get2 hi, w64 (show (-9223372036854775808) ≤ (i : Int) + 1 by omega) (by omega), Int.toNat_natCast]
    refine Ev.bind (toInt64S_ev l[i] (by omega)) ?_
    rw [toss_step l i hi]
    exact ih (i + 1) (by omega)
theorem toInt64SS_ev (l : List (List Int)) (hl : l.length ≤ 1048576) (hr : ∀ r ∈ l, r.length ≤ 1048576) : Ev (fun k => laws_toInt64SS.f k l) l := by
  simp only [laws_toInt64SS.f, if_pos (show 0 ≤ (l.length : Int) by omega), Int.toNat_natCast, if_pos (show l.length ≤ 11728124029610 by omega)]
  have := toss_l0 l hl hr l.length 0 (by omega)
  simpa using this

/-! laws.toMixture -/
theorem toMixture_ev (ws : List Int) (l : List (List Int)) (hw : ws.length ≤ 1048576) (hl : l.length ≤ 1048576) (hr : ∀ r ∈ l, r.length ≤ 1048576) : Ev (fun k => laws_toMixture.f k ws l) (ws, l) := by
  unfold laws_toMixture.f
  exact Ev.bind (toInt64S_ev ws (by omega)) (Ev.bind (toInt64SS_ev l hl hr) (Ev.now _))

/-! laws.eqInt64S -/
theorem eq_l0 (a b : List Int) (hl : a.length = b.length) (hm : a.length ≤ 9223372036854775806) : ∀ (d i : Nat), d + i = a.length → Ev (fun k => laws_eqInt64S.l0 k a b i) (decide (a.drop i = b.drop i)) := by
  intro d
  induction d with
  | zero =>
    intro i hd
    apply Ev.succ
    simp only [laws_eqInt64S.l0, if_neg (show ¬ (i : Int) < (a.length : Int) by omega)]
    rw [List.drop_of_length_le (by omega), List.drop_of_length_le (by omega)]
    exact Ev.now _
  | succ d ih =>
    intro i hd
    have hi : i < a.length := by omega
    have hi' : i < b.length := by omega
    apply Ev.succ
    simp only [laws_eqInt64S.l0, if_pos (show (i : Int) < (a.length : Int) by omega), if_pos (show 0 ≤ (i : Int) by omega), if_pos (show (i : Int) < (b.length : Int) by omega), rd_get hi, rd_get hi', w64 (show (-9223372036854775808) ≤ (i : Int) + 1 by omega) (by omega)]
    rw [List.drop_eq_getElem_cons hi, List.drop_eq_getElem_cons hi']
    by_cases h : a[i] = b[i]
    · simp only [if_pos h]
      exact (ih (i + 1) (by omega)).to (by simp only [List.cons.injEq, h, true_and])
    · simp only [if_neg h]
      exact (Ev.now _).to (by simp only [List.cons.injEq, h, false_and, decide_false])
theorem eqInt64S_ev (a b : List Int) (hm : a.length ≤ 9223372036854775806) : Ev (fun k => laws_eqInt64S.f k a b) (decide (a = b)) := by
  unfold laws_eqInt64S.f
  by_cases h : a.length = b.length
  · simp only [if_pos (show (a.length : Int) = (b.length : Int) by omega)]
    simpa using eq_l0 a b h hm a.length 0 (by omega)
  · simp only [if_neg (show ¬ (a.length : Int) = (b.length : Int) by omega)]
    exact (Ev.now _).to (by symm; simp; intro e; exact h (by rw [e]))

/-! laws.eqInt64SS -/
theorem rdl_get3 {xs : List (List Int)} {i : Nat} (h : i < xs.length) : rd_L1 xs (i : Int) = xs[i] := by
  unfold rd_L1; exact getD_get h
theorem eqss_l0 (a b : List (List Int)) (hl : a.length = b.length) (hm : a.length ≤ 9223372036854775806) (hr : ∀ r ∈ a, r.length ≤ 9223372036854775806) : ∀ (d i : Nat), d + i = a.length → Ev (fun k => laws_eqInt64SS.l0 k a b i) (decide (a.drop i = b.drop i)) := by
  intro d
  induction d with
  | zero =>
    intro i hd
    apply Ev.succ
    simp only [laws_eqInt64SS.l0, if_neg (show ¬ (i : Int) < (a.length : Int) by omega)]
    rw [List.drop_of_length_le (by omega), List.drop_of_length_le (by omega)]
    exact Ev.now _
  | succ d ih =>
    intro i hd
    have hi : i < a.length := by omega
    have hi' : i < b.length := by omega
    apply Ev.succ
    simp only [laws_eqInt64SS.l0, if_pos (show (i : Int) < (a.length : Int) by omega), if_pos (show 0 ≤ (i : Int) by omega), if_pos (show (i : Int) < (b.length : Int) by omega), rdl_get3 hi, rdl_get3 hi', w64 (show (-9223372036854775808) ≤ (i : Int) + 1 by omega) (by omega)]
    rw [List.drop_eq_getElem_cons hi, List.drop_eq_getElem_cons hi']
    refine Ev.bind (eqInt64S_ev a[i] b[i] (hr _ (List.getElem_mem hi))) ?_
    by_cases h : a[i] = b[i]
    · simp only [decide_eq_true h, if_true]
      exact (ih (i + 1) (by omega)).to (by simp only [List.cons.injEq, h, true_and])
    · simp only [decide_eq_false h, Bool.false_eq_true, if_false]
      exact (Ev.now _).to (by simp only [List.cons.injEq, h, false_and, decide_false])
theorem eqInt64SS_ev (a b : List (List Int)) (hm : a.length ≤ 9223372036854775806) (hr : ∀ r ∈ a, r.length ≤ 9223372036854775806) : Ev (fun k => laws_eqInt64SS.f k a b) (decide (a = b)) := by
  unfold laws_eqInt64SS.f
  by_cases h : a.length = b.length
  · simp only [if_pos (show (a.length : Int) = (b.length : Int) by omega)]
    simpa using eqss_l0 a b h hm hr a.length 0 (by omega)
  · simp only [if_neg (show ¬ (a.length : Int) = (b.length : Int) by omega)]
    exact (Ev.now _).to (by symm; simp; intro e; exact h (by rw [e]))

/-! laws.eqMixture -/
theorem eqMixture_ev (ws : List Int) (l : List (List Int)) (hw : ws.length ≤ 1048576) (hl : l.length ≤ 1048576) (hr : ∀ r ∈ l, r.length ≤ 1048576) : Ev (fun k => laws_eqMixture.f k ws l ws l) true := by
  unfold laws_eqMixture.f
  refine Ev.bind (eqInt64S_ev ws ws (by omega)) ?_
  simp only [decide_true, if_true]
  refine Ev.bind (eqInt64SS_ev l l (by omega) (fun r h => by have := hr r h; omega)) ?_
  simp only [decide_true, if_true]
  exact Ev.now _

/-! laws.markInt64S -/
theorem mark_l0 (l : List Int) (m : Int) (hl : l.length ≤ 140737488355328) (h0 : 0 ≤ m) (h1 : m ≤ 4611686018427387904) : ∀ (d i : Nat), d + i = l.length → Ev (fun k => laws_markInt64S.l0 k (MARKS m i ++ l.drop i) (m + (i : Int)) i) (m + (l.length : Int), MARKS m l.length) := by
  intro d
  induction d with
  | zero =>
    intro i hd
    apply Ev.succ
    simp only [laws_markInt64S.l0, if_neg (show ¬ (i : Int) < ((MARKS m i ++ l.drop i).length : Int) by simp [MARKS_length]; omega)]
    rw [show i = l.length by omega, List.drop_length, List.append_nil]
    exact Ev.now _
  | succ d ih =>
    intro i hd
    have hi : i < l.length := by omega
    apply Ev.succ
    simp only [laws_markInt64S.l0, if_pos (show (i : Int) < ((MARKS m i ++ l.drop i).length : Int) by simp [MARKS_length]; omega), if_pos (show 0 ≤ (i : Int) by omega), Int.toNat_natCast, marks_step l m i hi, w64 (show (-9223372036854775808) ≤ (i : Int) + 1 by omega) (by omega), w64 (show (-9223372036854775808) ≤ m + (i : Int) + 1 by omega) (by omega)]
    have := ih (i + 1) (by omega)
    rw [Int.natCast_succ, ← Int.add_assoc] at this
    exact this
theorem markInt64S_ev (l : List Int) (m : Int) (hl : l.length ≤ 140737488355328) (h0 : 0 ≤ m) (h1 : m ≤ 4611686018427387904) : Ev (fun k => laws_markInt64S.f k l m) (m + (l.length : Int), MARKS m l.length) := by
  have := mark_l0 l m hl h0 h1 l.length 0 (by omega)
  simpa [laws_markInt64S.f, MARKS] using this

/-! laws.markInt64SS -/
theorem rdl_getM {xs : List (List Int)} {i : Nat} : rd_L1 xs (i : Int) = xs.getD i [] := by
  unfold rd_L1; simp
theorem mss_l0 (n : Nat) (hn : n ≤ 1048576) : ∀ (d i : Nat) (x : List (List Int)) (m : Int), d + i = n → x.length = n → (∀ r ∈ x, r.length ≤ 1048576) → 0 ≤ m → m ≤ 2000000 + i * 1048576 → ∃ r : Int, Ev (fun k => laws_markInt64SS.l0 k x m i) r ∧ 0 ≤ r := by
  intro d
  induction d with
  | zero =>
    intro i x m hd hx hr h0 h1
    refine ⟨m, ?_, h0⟩
    apply Ev.succ
    simp only [laws_markInt64SS.l0, if_neg (show ¬ (i : Int) < (x.length : Int) by omega)]
    exact Ev.now _
  | succ d ih =>
    intro i x m hd hx hr h0 h1
    have hi : i < x.length := by omega
    have hm := hr (x.getD i []) (by simp [List.getD_eq_getElem?_getD, hi])
    obtain ⟨r, h2, h3⟩ := ih (i + 1) (x.set i (MARKS m (x.getD i []).length)) (m + (x.getD i []).length) (by omega) (by simp [hx]) (fun r hr' => by
      rcases List.mem_or_eq_of_mem_set hr' with h | h
      · exact hr r h
      · rw [h, MARKS_length]; exact hm) (by omega) (by omega)
    refine ⟨r, ?_, h3⟩
    apply Ev.succ
    simp only [laws_markInt64SS.l0, if_pos (show (i : Int) < (x.length : Int) by omega), if_pos (show 0 ≤ (i : Int) by omega), rdl_getM, inc hi (by omega), Int.toNat_natCast]
    exact Ev.bind (markInt64S_ev (x.getD i []) m (by omega) h0 (by omega)) h2
theorem markSS_ev (x : List (List Int)) (hx : x.length ≤ 1048576) (hr : ∀ r ∈ x, r.length ≤ 1048576) : ∃ r : Int, Ev (fun k => laws_markInt64SS.f k x 1) r ∧ 0 ≤ r := by
  obtain ⟨r, h, h2⟩ := mss_l0 x.length hx x.length 0 x 1 (by omega) rfl hr (by omega) (by omega)
  exact ⟨r, h, h2⟩
theorem markSSa_ev (x : List (List Int)) (hx : x.length ≤ 1048576) (hr : ∀ r ∈ x, r.length ≤ 1048576) (a : Int) (h0 : 0 ≤ a) (h1 : a ≤ 2000000) : ∃ r : Int, Ev (fun k => laws_markInt64SS.f k x a) r ∧ 0 ≤ r := by
  obtain ⟨r, h, h2⟩ := mss_l0 x.length hx x.length 0 x a (by omega) rfl hr h0 (by omega)
  exact ⟨r, h, h2⟩

/-! laws.markMixture -/
theorem markMixture_ev (ws : List Int) (x : List (List Int)) (hw : ws.length ≤ 1048576) (hx : x.length ≤ 1048576) (hr : ∀ r ∈ x, r.length ≤ 1048576) : ∃ r : Int, Ev (fun k => laws_markMixture.f k ws x 1) r ∧ 0 ≤ r := by
  obtain ⟨r, h, h2⟩ := markSSa_ev x hx hr (1 + ws.length) (by omega) (by omega)
  refine ⟨r, ?_, h2⟩
  unfold laws_markMixture.f
  exact Ev.bind (markInt64S_ev ws 1 (by omega) (by omega) (by omega)) h

/-! laws.heldInt64S -/
theorem held_l0 (m : Int) (n : Nat) (hl : n ≤ 140737488355328) (h0 : 0 ≤ m) (h1 : m ≤ 4611686018427387904) : ∀ (d i : Nat), d + i = n → Ev (fun k => laws_heldInt64S.l0 k (MARKS m n) (m + (i : Int)) i) (m + (n : Int)) := by
  intro d
  induction d with
  | zero =>
    intro i hd
    apply Ev.succ
    simp only [laws_heldInt64S.l0, MARKS_length, if_neg (show ¬ (i : Int) < (n : Int) by omega)]
    rw [show i = n by omega]
    exact Ev.now _
  | succ d ih =>
    intro i hd
    have hi : i < (MARKS m n).length := by rw [MARKS_length]; omega
    apply Ev.succ
    simp only [laws_heldInt64S.l0, MARKS_length, if_pos (show (i : Int) < (n : Int) by omega), if_pos (show 0 ≤ (i : Int) by omega), rd_get hi, MARKS_get m n i hi, if_true, w64 (show (-9223372036854775808) ≤ (i : Int) + 1 by omega) (by omega), w64 (show (-9223372036854775808) ≤ m + (i : Int) + 1 by omega) (by omega)]
    have := ih (i + 1) (by omega)
    rw [Int.natCast_succ, ← Int.add_assoc] at this
    exact this
theorem heldInt64S_ev (m : Int) (n : Nat) (hl : n ≤ 140737488355328) (h0 : 0 ≤ m) (h1 : m ≤ 4611686018427387904) : Ev (fun k => laws_heldInt64S.f k (MARKS m n) m) (m + (n : Int)) := by
  have := held_l0 m n hl h0 h1 n 0 (by omega)
  simpa [laws_heldInt64S.f] using this

/-! spec.l00In -/
theorem in_eq (a b c : Int) : spec_l00In.f a b c = some (decide (b ≤ a ∧ a ≤ c)) := by
  unfold spec_l00In.f
  by_cases h : b ≤ a
  · rw [if_pos (show a ≥ b from h)]; simp [h]
  · rw [if_neg (show ¬ a ≥ b from h)]; simp [h]

/-! spec.l00Same -/
theorem same_l0 (a b : List Int) (hl : a.length = b.length) (hm : a.length ≤ 9223372036854775806) : ∀ (d i : Nat), d + i = a.length → Ev (fun k => spec_l00Same.l0 k a b i) (decide (a.drop i = b.drop i)) := by
  intro d
  induction d with
  | zero =>
    intro i hd
    apply Ev.succ
    simp only [spec_l00Same.l0, if_neg (show ¬ (i : Int) < (a.length : Int) by omega)]
    rw [List.drop_of_length_le (by omega), List.drop_of_length_le (by omega)]
    exact Ev.now _
  | succ d ih =>
    intro i hd
    have hi : i < a.length := by omega
    have hi' : i < b.length := by omega
    apply Ev.succ
    simp only [spec_l00Same.l0, if_pos (show (i : Int) < (a.length : Int) by omega), if_pos (show 0 ≤ (i : Int) by omega), if_pos (show (i : Int) < (b.length : Int) by omega), rd_get hi, rd_get hi', w64 (show (-9223372036854775808) ≤ (i : Int) + 1 by omega) (by omega)]
    rw [List.drop_eq_getElem_cons hi, List.drop_eq_getElem_cons hi']
    by_cases h : a[i] = b[i]
    · simp only [if_pos h]
      exact (ih (i + 1) (by omega)).to (by simp only [List.cons.injEq, h, true_and])
    · simp only [if_neg h]
      exact (Ev.now _).to (by simp only [List.cons.injEq, h, false_and, decide_false])
theorem same_ev (a b : List Int) (hm : a.length ≤ 9223372036854775806) : Ev (fun k => spec_l00Same.f k a b) (decide (a = b)) := by
  unfold spec_l00Same.f
  by_cases h : a.length = b.length
  · simp only [if_pos (show (a.length : Int) = (b.length : Int) by omega)]
    simpa using same_l0 a b h hm a.length 0 (by omega)
  · simp only [if_neg (show ¬ (a.length : Int) = (b.length : Int) by omega)]
    exact (Ev.now _).to (by symm; simp; intro e; exact h (by rw [e]))

/-! spec.l06Is -/
/-- A valid mixture. -/
def mxRow (ls : List (List Int)) (i : Nat) : Bool := decide ((ls.getD i []).length = (ls.headD []).length) && (((ls.getD i []).all fun x => decide (-1000000 ≤ x ∧ x ≤ 1000000)) && (List.range i).all fun j => !decide (ls.getD j [] = ls.getD i []))
def mxW (ws : List Int) : Bool := ws.all fun w => decide (1 ≤ w ∧ w ≤ 1000000)
def VM (ws : List Int) (ls : List (List Int)) : Bool := decide (1 ≤ (ls.length : Int) ∧ (ls.length : Int) ≤ 64) && (decide (ws.length = ls.length) && (decide ((ls.headD []).length ≤ 40) && (mxW ws && ((List.range ls.length).all (mxRow ls) && decide (wsum 0 ws ≤ 1000000)))))
theorem rdl_get6 {xs : List (List Int)} {i : Nat} (h : i < xs.length) : rd_L1 xs (i : Int) = xs.getD i [] := by
  unfold rd_L1; simp
theorem rdl_head6 (xs : List (List Int)) : rd_L1 xs 0 = xs.headD [] := by
  unfold rd_L1; cases xs <;> rfl
theorem rd_getD {xs : List Int} {i : Nat} : rd xs (i : Int) = xs.getD i 0 := by
  unfold rd; simp
theorem vm_l2 (ws : List Int) (ls : List (List Int)) (t : Int) (i : Nat) (hi : i < ls.length) (hl : ls.length ≤ 64) (hr : ∀ r ∈ ls, r.length ≤ 1048576) {s : Bool} (hs : Ev (fun k => spec_l06Is.l0 k t (wrap64 ((i : Int) + 1)) ws ls) s) : Ev (fun k => spec_l06Is.l2 k t i 0 ws ls) (((List.range i).all fun j => !decide (ls.getD j [] = ls.getD i [])) && s) := by
  refine all_step i (fun j => !decide (ls.getD j [] = ls.getD i [])) (fun k j => spec_l06Is.l2 k t i j ws ls) ?_ ?_
  · apply Ev.succ
    simp only [spec_l06Is.l2, if_neg (show ¬ (i : Int) < i by omega)]
    exact hs
  · intro j hj q hq
    have hj' : j < ls.length := by omega
    apply Ev.succ
    simp only [spec_l06Is.l2, if_pos (show (j : Int) < i by omega), if_pos (show 0 ≤ (j : Int) by omega), if_pos (show (j : Int) < ls.length by omega), if_pos (show 0 ≤ (i : Int) by omega), if_pos (show (i : Int) < ls.length by omega), rdl_get6 hj', rdl_get6 hi]
    refine Ev.bind (same_ev (ls.getD j []) (ls.getD i []) ?_) ?_
    · have := hr (ls.getD j []) (by simp [List.getD_eq_getElem?_getD, hj'])
      omega
    · by_cases e : ls.getD j [] = ls.getD i []
      · simp only [decide_eq_true e, if_true, Bool.not_true, Bool.false_and]
        exact Ev.now _
      · simp only [decide_eq_false e, Bool.false_eq_true, if_false, Bool.not_false, Bool.true_and, inc hj (by omega)]
        exact hq
theorem vm_l1 (ws : List Int) (ls : List (List Int)) (t : Int) (i : Nat) (hi : i < ls.length) (hl : ls.length ≤ 64) (hr : ∀ r ∈ ls, r.length ≤ 1048576) {s : Bool} (hs : Ev (fun k => spec_l06Is.l2 k t i 0 ws ls) s) : Ev (fun k => spec_l06Is.l1 k t i 0 ws ls) (((ls.getD i []).all fun x => decide (-1000000 ≤ x ∧ x ≤ 1000000)) && s) := by
  have hm := hr (ls.getD i []) (by simp [List.getD_eq_getElem?_getD, hi])
  rw [← all_range (ls.getD i []) _ 0]
  refine all_step (ls.getD i []).length (fun j => decide (-1000000 ≤ (ls.getD i []).getD j 0 ∧ (ls.getD i []).getD j 0 ≤ 1000000)) (fun k j => spec_l06Is.l1 k t i j ws ls) ?_ ?_
  · apply Ev.succ
    simp only [spec_l06Is.l1, if_pos (show 0 ≤ (i : Int) by omega), if_pos (show (i : Int) < ls.length by omega), rdl_get6 hi, if_neg (show ¬ ((ls.getD i []).length : Int) < (ls.getD i []).length by omega)]
    exact hs
  · intro j hj q hq
    apply Ev.succ
    simp only [spec_l06Is.l1, if_pos (show 0 ≤ (i : Int) by omega), if_pos (show (i : Int) < ls.length by omega), rdl_get6 hi, if_pos (show (j : Int) < (ls.getD i []).length by omega), if_pos (show 0 ≤ (j : Int) by omega), rd_getD, in_eq, Option.bind_some]
    by_cases e : -1000000 ≤ (ls.getD i []).getD j 0 ∧ (ls.getD i []).getD j 0 ≤ 1000000
    · simp only [decide_eq_true e, if_true, Bool.true_and, inc hj (by omega)]
      exact hq
    · simp only [decide_eq_false e, Bool.false_eq_true, if_false, Bool.false_and]
      exact Ev.now _
theorem take_wsum (ws : List Int) (i : Nat) (h : i < ws.length) : wrap64 (wsum 0 (ws.take i) + ws.getD i 0) = wsum 0 (ws.take (i + 1)) := by
  have e : ws.getD i 0 = ws[i] := by simp [List.getD_eq_getElem?_getD, h]
  rw [List.take_succ_eq_append_getElem h, e]
  unfold wsum
  rw [List.foldl_append]
  rfl
theorem vm_l0 (ws : List Int) (ls : List (List Int)) (hl : ls.length ≤ 64) (hw : ws.length = ls.length) (hr : ∀ r ∈ ls, r.length ≤ 1048576) : Ev (fun k => spec_l06Is.l0 k 0 0 ws ls) ((List.range ls.length).all (fun i => decide (1 ≤ ws.getD i 0 ∧ ws.getD i 0 ≤ 1000000) && mxRow ls i) && decide (wsum 0 ws ≤ 1000000)) := by
  have := all_step ls.length (fun i => decide (1 ≤ ws.getD i 0 ∧ ws.getD i 0 ≤ 1000000) && mxRow ls i) (fun k i => spec_l06Is.l0 k (wsum 0 (ws.take i)) i ws ls) (r := decide (wsum 0 ws ≤ 1000000)) ?_ ?_
  · exact this
  · apply Ev.succ
    simp only [spec_l06Is.l0, if_neg (show ¬ (ls.length : Int) < ls.length by omega)]
    rw [List.take_of_length_le (by omega)]
    exact Ev.now _
  · intro i hi s hs
    have hi' : i < ws.length := by omega
    apply Ev.succ
    simp only [spec_l06Is.l0, if_pos (show (i : Int) < ls.length by omega), if_pos (show 0 ≤ (i : Int) by omega), if_pos (show (i : Int) < ws.length by omega), rd_getD, in_eq, Option.bind_some, if_pos (show 0 < (ls.length : Int) by omega), rdl_get6 hi, rdl_head6]
    by_cases e : 1 ≤ ws.getD i 0 ∧ ws.getD i 0 ≤ 1000000
    · simp only [decide_eq_true e, if_true, Bool.true_and]
      apply Ev.succ
      by_cases e2 : (ls.getD i []).length = (ls.headD []).length
      · have hne : (((ls.getD i []).length : Int) != ((ls.headD []).length : Int)) = false := by simp only [bne_eq_false_iff_eq]; omega
        simp only [spec_l06Is.j2, hne, Bool.false_eq_true, if_false, if_pos (show 0 ≤ (i : Int) by omega), if_pos (show (i : Int) < ws.length by omega), rd_getD, take_wsum ws i hi']
        refine (vm_l1 ws ls _ i hi hl hr (vm_l2 ws ls _ i hi hl hr (s := s) ?_)).to ?_
        · rw [inc hi (by omega)]
          exact hs
        · simp only [mxRow, decide_eq_true e2, Bool.true_and, Bool.and_assoc]
      · have hne : (((ls.getD i []).length : Int) != ((ls.headD []).length : Int)) = true := by simp only [bne_iff_ne, ne_eq]; omega
        simp only [spec_l06Is.j2, hne, if_true]
        exact (Ev.now _).to (by simp only [mxRow, decide_eq_false e2, Bool.false_and])
    · simp only [decide_eq_false e, Bool.false_eq_true, if_false, Bool.false_and]
      apply Ev.succ
      simp only [spec_l06Is.j2, if_true]
      exact Ev.now _
theorem all_and {n : Nat} (p q : Nat → Bool) : (List.range n).all (fun i => p i && q i) = ((List.range n).all p && (List.range n).all q) := by
  induction n with
  | zero => rfl
  | succ n ih =>
    rw [List.range_succ, List.all_append, List.all_append, List.all_append, ih]
    simp only [List.all_cons, List.all_nil, Bool.and_true]
    cases p n <;> cases q n <;> simp
theorem l06Is_ev (ws : List Int) (ls : List (List Int)) (hw : ws.length ≤ 1048576) (hl : ls.length ≤ 1048576) (hr : ∀ r ∈ ls, r.length ≤ 1048576) : Ev (fun k => spec_l06Is.f k ws ls) (VM ws ls) := by
  unfold spec_l06Is.f VM
  simp only [in_eq, Option.bind_some, rdl_head6]
  by_cases h1 : 1 ≤ (ls.length : Int) ∧ (ls.length : Int) ≤ 64
  · by_cases h2 : ws.length = ls.length
    · simp only [decide_eq_true h1, decide_eq_true h2, if_true, if_pos (show (ws.length : Int) = ls.length by omega), if_pos (show 0 < (ls.length : Int) by omega), Bool.true_and]
      apply Ev.succ
      by_cases h3 : (ls.headD []).length ≤ 40
      · simp only [spec_l06Is.j0, decide_eq_false (show ¬ ((ls.headD []).length : Int) > 40 by omega), decide_eq_true h3, Bool.false_eq_true, if_false, Bool.true_and]
        refine (vm_l0 ws ls (by omega) h2 hr).to ?_
        rw [all_and, Bool.and_assoc, mxW, ← all_range ws _ 0, h2]
      · simp only [spec_l06Is.j0, decide_eq_true (show ((ls.headD []).length : Int) > 40 by omega), decide_eq_false h3, if_true, Bool.false_and]
        exact Ev.now _
    · simp only [decide_eq_true h1, decide_eq_false h2, if_true, if_neg (show ¬ (ws.length : Int) = ls.length by omega), Bool.false_and, Bool.and_false]
      apply Ev.succ
      simp only [spec_l06Is.j0, if_true]
      exact Ev.now _
  · simp only [decide_eq_false h1, Bool.false_eq_true, if_false, Bool.false_and]
    apply Ev.succ
    simp only [spec_l06Is.j0, if_true]
    exact Ev.now _
theorem vm_facts {ws : List Int} {ls : List (List Int)} (h : VM ws ls = true) : 1 ≤ ls.length ∧ ls.length ≤ 64 ∧ ws.length = ls.length ∧ (ls.headD []).length ≤ 40 ∧ (∀ w ∈ ws, 1 ≤ w ∧ w ≤ 1000000) ∧ (∀ i, i < ls.length → (ls.getD i []).length = (ls.headD []).length ∧ ∀ x ∈ ls.getD i [], -1000000 ≤ x ∧ x ≤ 1000000) ∧ wsum 0 ws ≤ 1000000 := by
  simp only [VM, mxW, mxRow, Bool.and_eq_true, decide_eq_true_eq, List.all_eq_true, List.mem_range] at h
  obtain ⟨h1, h2, h3, h4, h5, h6⟩ := h
  exact ⟨by omega, by omega, h2, h3, h4, fun i hi => ⟨(h5 i hi).1, (h5 i hi).2.1⟩, h6⟩

/-! spec.l01Sum -/
theorem ssum_l0 (l : List Int) (hl : l.length ≤ 9223372036854775806) : ∀ (d i : Nat) (acc : Int), d + i = l.length → Ev (fun k => spec_l01Sum.l0 k l acc i) (wsum acc (l.drop i)) := by
  intro d
  induction d with
  | zero =>
    intro i acc hd
    apply Ev.succ
    simp only [spec_l01Sum.l0, if_neg (show ¬ (i : Int) < (l.length : Int) by omega)]
    rw [List.drop_of_length_le (by omega)]
    exact Ev.now _
  | succ d ih =>
    intro i acc hd
    have hi : i < l.length := by omega
    apply Ev.succ
    simp only [spec_l01Sum.l0, if_pos (show (i : Int) < (l.length : Int) by omega), if_pos (show 0 ≤ (i : Int) by omega), rd_get hi, w64 (show (-9223372036854775808) ≤ (i : Int) + 1 by omega) (by omega)]
    rw [List.drop_eq_getElem_cons hi]
    exact ih (i + 1) _ (by omega)
theorem ssum_ev (l : List Int) (hl : l.length ≤ 9223372036854775806) : Ev (fun k => spec_l01Sum.f k l) (wsum 0 l) := by
  have := ssum_l0 l hl l.length 0 0 (by omega)
  simpa [spec_l01Sum.f] using this

/-! spec.l00Put -/
def PUT : List Int → Int → List Int
  | [], n => [n]
  | x :: l, n => if x ≥ n then (if x > n then n :: x :: l else x :: l) else x :: PUT l n
theorem put_mem (n y : Int) : ∀ l : List Int, y ∈ PUT l n ↔ y = n ∨ y ∈ l
  | [] => by simp [PUT]
  | x :: l => by
    have ih := put_mem n y l
    unfold PUT
    by_cases c : x ≥ n
    · rw [if_pos c]
      by_cases c2 : x > n
      · rw [if_pos c2]; simp
      · rw [if_neg c2]
        have : x = n := by omega
        subst this
        simp only [List.mem_cons]
        constructor
        · intro h; exact .inr h
        · rintro (h | h)
          · exact .inl h
          · exact h
    · rw [if_neg c]
      simp only [List.mem_cons, ih]
      constructor
      · rintro (h | h | h)
        · exact .inr (.inl h)
        · exact .inl h
        · exact .inr (.inr h)
      · rintro (h | h | h)
        · exact .inr (.inl h)
        · exact .inl h
        · exact .inr (.inr h)
theorem put_rise (n : Int) : ∀ l : List Int, l.Pairwise (· < ·) → (PUT l n).Pairwise (· < ·)
  | [], _ => by simp [PUT]
  | x :: l, h => by
    have h' := List.pairwise_cons.1 h
    have ih := put_rise n l h'.2
    unfold PUT
    by_cases c : x ≥ n
    · rw [if_pos c]
      by_cases c2 : x > n
      · rw [if_pos c2, List.pairwise_cons]
        refine ⟨fun y hy => ?_, h⟩
        rcases List.mem_cons.1 hy with e | hy
        · omega
        · have := h'.1 y hy; omega
      · rw [if_neg c2]; exact h
    · rw [if_neg c, List.pairwise_cons]
      refine ⟨fun y hy => ?_, ih⟩
      rcases (put_mem n y l).1 hy with e | hy
      · omega
      · exact h'.1 y hy
theorem put_length (n : Int) : ∀ l : List Int, (PUT l n).length ≤ l.length + 1
  | [] => by simp [PUT]
  | x :: l => by
    have ih := put_length n l
    unfold PUT
    by_cases c : x ≥ n
    · rw [if_pos c]
      by_cases c2 : x > n
      · rw [if_pos c2]; simp
      · rw [if_neg c2]; simp
    · rw [if_neg c]; simp; omega
theorem put_l0 (l : List Int) (n : Int) (hl : l.length ≤ 1000000) : ∀ (d i : Nat), i + d = l.length → ∀ acc : List Int, acc.length ≤ i + 1 →
    Ev (fun k => spec_l00Put.l0 k l n acc true (i : Int)) (acc ++ l.drop i) ∧ (acc.length ≤ i → Ev (fun k => spec_l00Put.l0 k l n acc false (i : Int)) (acc ++ PUT (l.drop i) n)) := by
  intro d
  induction d with
  | zero =>
    intro i hi acc ha
    have hd : l.drop i = [] := List.drop_of_length_le (by omega)
    rw [hd]
    refine ⟨?_, fun ha => ?_⟩
    · apply Ev.succ
      simp only [spec_l00Put.l0, if_neg (show ¬ (i : Int) < (l.length : Int) by omega), if_true, List.append_nil]
      exact Ev.now _
    · apply Ev.succ
      simp only [spec_l00Put.l0, if_neg (show ¬ (i : Int) < (l.length : Int) by omega), Bool.false_eq_true, if_false, if_pos (show acc.length < 17592186044416 by omega), PUT]
      exact Ev.now _
  | succ d ih =>
    intro i hi acc ha
    have hi' : i < l.length := by omega
    have hd : l.drop i = l[i] :: l.drop (i + 1) := List.drop_eq_getElem_cons hi'
    have c1 : (i : Int) < (l.length : Int) := by omega
    have c0 : 0 ≤ (i : Int) := by omega
    have ca : acc.length < 17592186044416 := by omega
    have ei : wrap64 ((i : Int) + 1) = ((i + 1 : Nat) : Int) := by rw [w64 (by omega) (by omega)]; omega
    rw [hd]
    refine ⟨?_, fun ha => ?_⟩
    · have := (ih (i + 1) (by omega) (acc ++ [l[i]]) (by simp; omega)).1
      apply Ev.succ
      simp only [spec_l00Put.l0, if_pos c1, if_true]
      apply Ev.succ
      simp only [spec_l00Put.j1, Bool.false_eq_true, if_false, if_pos c0, if_pos c1, if_pos ca, rd_get hi', ei]
      exact this.to (by simp)
    · apply Ev.succ
      simp only [spec_l00Put.l0, if_pos c1, Bool.false_eq_true, if_false, if_pos c0, rd_get hi']
      unfold PUT
      by_cases c : l[i] ≥ n
      · rw [if_pos c]
        by_cases c2 : l[i] > n
        · have := (ih (i + 1) (by omega) (acc ++ [n] ++ [l[i]]) (by simp; omega)).1
          rw [if_pos c2]
          apply Ev.succ
          simp only [spec_l00Put.j1, decide_eq_true c, if_true, if_pos c0, if_pos c1, if_pos ca, rd_get hi', if_pos c2, Option.bind_some, ei]
          simp only [if_pos (show (acc ++ [n]).length < 17592186044416 by simp; omega)]
          exact this.to (by simp)
        · have := (ih (i + 1) (by omega) (acc ++ [l[i]]) (by simp; omega)).1
          rw [if_neg c2]
          apply Ev.succ
          simp only [spec_l00Put.j1, decide_eq_true c, if_true, if_pos c0, if_pos c1, if_pos ca, rd_get hi', if_neg c2, ei]
          exact this.to (by simp)
      · have := (ih (i + 1) (by omega) (acc ++ [l[i]]) (by simp; omega)).2 (by simp; omega)
        rw [if_neg c]
        apply Ev.succ
        simp only [spec_l00Put.j1, decide_eq_false c, Bool.false_eq_true, if_false, if_pos c0, if_pos c1, if_pos ca, rd_get hi', ei]
        exact this.to (by simp)
theorem put_ev (l : List Int) (n : Int) (hl : l.length ≤ 1000000) : Ev (fun k => spec_l00Put.f k l n) (PUT l n) := by
  have := (put_l0 l n hl l.length 0 (by omega) [] (by simp)).2 (by simp)
  unfold spec_l00Put.f
  simpa using this

/-! impl.within -/
theorem within_eq (a b c : Int) : impl_within.f a b c = some (decide (b ≤ a ∧ a ≤ c)) := by
  unfold impl_within.f
  by_cases h : b ≤ a
  · rw [if_pos h]; simp [h]
  · rw [if_neg h]; simp [h]

/-! impl.sum -/
theorem isum_l0 (l : List Int) (hl : l.length ≤ 9223372036854775806) : ∀ (d i : Nat) (acc : Int), d + i = l.length → Ev (fun k => impl_sum.l0 k acc l (l.length : Int) i) (wsum acc (l.drop i)) := by
  intro d
  induction d with
  | zero =>
    intro i acc hd
    apply Ev.succ
    simp only [impl_sum.l0, if_neg (show ¬ (i : Int) < (l.length : Int) by omega)]
    rw [List.drop_of_length_le (by omega)]
    exact Ev.now _
  | succ d ih =>
    intro i acc hd
    have hi : i < l.length := by omega
    apply Ev.succ
    simp only [impl_sum.l0, if_pos (show (i : Int) < (l.length : Int) by omega), if_pos (show 0 ≤ (i : Int) by omega), rd_get hi, w64 (show (-9223372036854775808) ≤ (i : Int) + 1 by omega) (by omega)]
    rw [List.drop_eq_getElem_cons hi]
    exact ih (i + 1) _ (by omega)
theorem isum_ev (l : List Int) (hl : l.length ≤ 9223372036854775806) : Ev (fun k => impl_sum.f k l) (wsum 0 l) := by
  have := isum_l0 l hl l.length 0 0 (by omega)
  simpa [impl_sum.f] using this

/-! impl.areWithin -/
theorem aw_l0 (l : List Int) (a b : Int) (hl : l.length ≤ 9223372036854775806) : ∀ (d i : Nat), d + i = l.length → ∃ r : Int, Ev (fun k => slices_IndexFunc_int64_int64_impl_areWithin_1.l0 k l (l.length : Int) i a b) r ∧ (decide (r ≥ 0) = !(l.drop i).all fun n => decide (a ≤ n ∧ n ≤ b)) := by
  intro d
  induction d with
  | zero =>
    intro i hd
    refine ⟨-1, ?_, ?_⟩
    · apply Ev.succ
      simp only [slices_IndexFunc_int64_int64_impl_areWithin_1.l0, if_neg (show ¬ (i : Int) < (l.length : Int) by omega)]
      exact Ev.now _
    · rw [List.drop_of_length_le (by omega)]; rfl
  | succ d ih =>
    intro i hd
    have hi : i < l.length := by omega
    obtain ⟨r, hr, he⟩ := ih (i + 1) (by omega)
    by_cases h : a ≤ l[i] ∧ l[i] ≤ b
    · refine ⟨r, ?_, ?_⟩
      · apply Ev.succ
        simp only [slices_IndexFunc_int64_int64_impl_areWithin_1.l0, if_pos (show (i : Int) < (l.length : Int) by omega), if_pos (show 0 ≤ (i : Int) by omega), rd_get hi, impl_areWithin_1.f, within_eq, decide_eq_true h, Option.bind_some, w64 (show (-9223372036854775808) ≤ (i : Int) + 1 by omega) (by omega)]
        simpa using hr
      · rw [he, List.drop_eq_getElem_cons hi, List.all_cons, decide_eq_true h, Bool.true_and]
    · refine ⟨i, ?_, ?_⟩
      · apply Ev.succ
        simp only [slices_IndexFunc_int64_int64_impl_areWithin_1.l0, if_pos (show (i : Int) < (l.length : Int) by omega), if_pos (show 0 ≤ (i : Int) by omega), rd_get hi, impl_areWithin_1.f, within_eq, decide_eq_false h, Option.bind_some]
        simpa using Ev.now _
      · rw [List.drop_eq_getElem_cons hi, List.all_cons, decide_eq_false h, Bool.false_and]; simp
theorem areWithin_ev (l : List Int) (a b : Int) (hl : l.length ≤ 9223372036854775806) : Ev (fun k => impl_areWithin.f k l a b) (l.all fun n => decide (a ≤ n ∧ n ≤ b)) := by
  obtain ⟨r, hr, he⟩ := aw_l0 l a b hl l.length 0 (by omega)
  unfold impl_areWithin.f
  simp only [slices_ContainsFunc_int64_int64_impl_areWithin_1.f, slices_IndexFunc_int64_int64_impl_areWithin_1.f]
  refine Ev.bind (Ev.bind hr (Ev.now _)) ?_
  refine (Ev.now _).to ?_
  rw [he, List.drop_zero, Bool.not_not]

/-! slices.Equal   int64,int64  -/
theorem sleq_l0 (a b : List Int) (hl : a.length = b.length) (hm : a.length ≤ 9223372036854775806) : ∀ (d i : Nat), d + i = a.length → Ev (fun k => slices_Equal_int64_int64.l0 k a b (a.length : Int) i) (decide (a.drop i = b.drop i)) := by
  intro d
  induction d with
  | zero =>
    intro i hd
    apply Ev.succ
    simp only [slices_Equal_int64_int64.l0, if_neg (show ¬ (i : Int) < (a.length : Int) by omega)]
    rw [List.drop_of_length_le (by omega), List.drop_of_length_le (by omega)]
    exact Ev.now _
  | succ d ih =>
    intro i hd
    have hi : i < a.length := by omega
    have hi' : i < b.length := by omega
    apply Ev.succ
    simp only [slices_Equal_int64_int64.l0, if_pos (show (i : Int) < (a.length : Int) by omega), if_pos (show 0 ≤ (i : Int) by omega), if_pos (show (i : Int) < (b.length : Int) by omega), rd_get hi, rd_get hi', w64 (show (-9223372036854775808) ≤ (i : Int) + 1 by omega) (by omega)]
    rw [List.drop_eq_getElem_cons hi, List.drop_eq_getElem_cons hi']
    by_cases h : a[i] = b[i]
    · simp only [if_pos h]
      exact (ih (i + 1) (by omega)).to (by simp only [List.cons.injEq, h, true_and])
    · simp only [if_neg h]
      exact (Ev.now _).to (by simp only [List.cons.injEq, h, false_and, decide_false])
theorem slEqual_ev (a b : List Int) (hm : a.length ≤ 9223372036854775806) : Ev (fun k => slices_Equal_int64_int64.f k a b) (decide (a = b)) := by
  unfold slices_Equal_int64_int64.f
  by_cases h : a.length = b.length
  · simp only [if_pos (show (a.length : Int) = (b.length : Int) by omega)]
    simpa using sleq_l0 a b h hm a.length 0 (by omega)
  · simp only [if_neg (show ¬ (a.length : Int) = (b.length : Int) by omega)]
    exact (Ev.now _).to (by symm; simp; intro e; exact h (by rw [e]))

/-! impl.ValidMixture -/
theorem rdl_get7 {xs : List (List Int)} {i : Nat} (h : i < xs.length) : rd_L1 xs (i : Int) = xs.getD i [] := by
  unfold rd_L1; simp
theorem rdl_head7 (xs : List (List Int)) : rd_L1 xs 0 = xs.headD [] := by
  unfold rd_L1; cases xs <;> rfl
theorem rdl_get8 {xs : List (List Int)} {i : Nat} (h : i < xs.length) : rd_L1 xs (i : Int) = xs[i] := by
  unfold rd_L1; exact getD_get h
def imRow (ls : List (List Int)) (i : Nat) : Bool := !((ls.take i).any fun r => decide (r = ls.getD i [])) && (decide ((ls.getD i []).length = (ls.headD []).length) && (decide ((ls.getD i []).length ≤ 40) && (ls.getD i []).all fun x => decide (-1000000 ≤ x ∧ x ≤ 1000000)))
theorem vm1_ev (r : List Int) (x : List Int) (hr : r.length ≤ 1048576) : Ev (fun k => impl_ValidMixture_1.f k r x) (decide (r = x)) := by
  unfold impl_ValidMixture_1.f
  exact Ev.bind (slEqual_ev r x (by omega)) (Ev.now _)
theorem vmC_ev (l : List (List Int)) (x : List Int) (hl : l.length ≤ 1048576) (hr : ∀ r ∈ l, r.length ≤ 1048576) : Ev (fun k => slices_ContainsFunc_int64_int64_impl_ValidMixture_1.f k l x) (l.any fun r => decide (r = x)) := by
  obtain ⟨r, hr1, hr2⟩ := find_loop l (fun r => decide (r = x)) (fun k j => slices_IndexFunc_int64_int64_impl_ValidMixture_1.l0 k l (l.length : Int) j x)
    (by
      apply Ev.succ
      simp only [slices_IndexFunc_int64_int64_impl_ValidMixture_1.l0, if_neg (show ¬ (l.length : Int) < l.length by omega)]
      exact Ev.now _)
    (fun i hi hp => by
      apply Ev.succ
      simp only [slices_IndexFunc_int64_int64_impl_ValidMixture_1.l0, if_pos (show (i : Int) < (l.length : Int) by omega), if_pos (show 0 ≤ (i : Int) by omega), rdl_get8 hi]
      refine Ev.bind (vm1_ev l[i] x (hr _ (List.getElem_mem hi))) ?_
      simp only [hp, if_true]
      exact Ev.now _)
    (fun i hi hp r hr' => by
      apply Ev.succ
      simp only [slices_IndexFunc_int64_int64_impl_ValidMixture_1.l0, if_pos (show (i : Int) < (l.length : Int) by omega), if_pos (show 0 ≤ (i : Int) by omega), rdl_get8 hi]
      refine Ev.bind (vm1_ev l[i] x (hr _ (List.getElem_mem hi))) ?_
      simp only [hp, Bool.false_eq_true, if_false, inc hi (by omega)]
      exact hr')
  simp only [slices_ContainsFunc_int64_int64_impl_ValidMixture_1.f, slices_IndexFunc_int64_int64_impl_ValidMixture_1.f]
  refine Ev.bind hr1 ?_
  refine (Ev.now _).to ?_
  rw [hr2]
theorem im_l0 (ws : List Int) (ls : List (List Int)) (hl : ls.length ≤ 64) (hr : ∀ r ∈ ls, r.length ≤ 1048576) : Ev (fun k => impl_ValidMixture.l0 k ls (ls.length : Int) 0 ws ls) ((List.range ls.length).all (imRow ls)) := by
  have := all_step ls.length (imRow ls) (fun k i => impl_ValidMixture.l0 k ls (ls.length : Int) i ws ls) (r := true) ?_ ?_
  · rw [Bool.and_true] at this
    exact this
  · apply Ev.succ
    simp only [impl_ValidMixture.l0, if_neg (show ¬ (ls.length : Int) < ls.length by omega)]
    exact Ev.now _
  · intro i hi s hs
    have hm := hr (ls.getD i []) (by simp [List.getD_eq_getElem?_getD, hi])
    apply Ev.succ
    simp only [impl_ValidMixture.l0, if_pos (show (i : Int) < ls.length by omega), if_pos (show 0 ≤ (i : Int) by omega), if_pos (show (i : Int) ≤ ls.length by omega), rdl_get7 hi, rdl_head7, Int.toNat_natCast]
    refine Ev.bind (vmC_ev (ls.take i) (ls.getD i []) (by simp; omega) (fun r h => hr r (List.mem_of_mem_take h))) ?_
    unfold imRow
    cases (ls.take i).any fun r => decide (r = ls.getD i []) with
    | true =>
      simp only [if_true, Bool.not_true, Bool.false_and]
      exact Ev.now _
    | false =>
      simp only [Bool.false_eq_true, if_false, Bool.not_false, Bool.true_and, if_pos (show 0 < (ls.length : Int) by omega)]
      by_cases e2 : (ls.getD i []).length = (ls.headD []).length
      · simp only [if_pos (show ((ls.getD i []).length : Int) = (ls.headD []).length by omega), decide_eq_true e2, Bool.true_and]
        by_cases e3 : (ls.getD i []).length ≤ 40
        · simp only [if_neg (show ¬ ((ls.getD i []).length : Int) > 40 by omega), decide_eq_true e3, Bool.true_and]
          refine Ev.bind (areWithin_ev (ls.getD i []) (-1000000) 1000000 (by omega)) ?_
          cases (ls.getD i []).all fun n => decide (-1000000 ≤ n ∧ n ≤ 1000000) with
          | true =>
            simp only [if_true, Bool.true_and, inc hi (by omega)]
            exact hs
          | false =>
            simp only [Bool.false_eq_true, if_false, Bool.false_and]
            exact Ev.now _
        · simp only [if_pos (show ((ls.getD i []).length : Int) > 40 by omega), decide_eq_false e3, Bool.false_and]
          exact Ev.now _
      · simp only [if_neg (show ¬ ((ls.getD i []).length : Int) = (ls.headD []).length by omega), decide_eq_false e2, Bool.false_and]
        exact Ev.now _
theorem im_rows (ls : List (List Int)) (h : 1 ≤ ls.length) : (List.range ls.length).all (imRow ls) = (decide ((ls.headD []).length ≤ 40) && (List.range ls.length).all (mxRow ls)) := by
  have hd : ls.getD 0 [] = ls.headD [] := by cases ls <;> rfl
  have tk : ∀ i, i < ls.length → ((ls.take i).any fun r => decide (r = ls.getD i [])) = !((List.range i).all fun j => !decide (ls.getD j [] = ls.getD i [])) := by
    intro i hi
    have := all_range (ls.take i) (fun r => !decide (r = ls.getD i [])) []
    rw [List.length_take, Nat.min_eq_left (by omega)] at this
    rw [show ((List.range i).all fun j => !decide (ls.getD j [] = ls.getD i [])) = (ls.take i).all (fun r => !decide (r = ls.getD i [])) from ?_]
    · generalize ls.getD i [] = x
      induction (ls.take i) with
      | nil => rfl
      | cons y l ih => rw [List.any_cons, List.all_cons, ih, Bool.not_and, Bool.not_not]
    · rw [← this]
      rw [Bool.eq_iff_iff, List.all_eq_true, List.all_eq_true]
      refine forall_congr' fun j => forall_congr' fun hj => ?_
      have hj' : j < i := by simpa using hj
      have : (ls.take i).getD j [] = ls.getD j [] := by simp [List.getD_eq_getElem?_getD, List.getElem?_take, hj']
      rw [this]
  rw [Bool.eq_iff_iff, Bool.and_eq_true, List.all_eq_true, List.all_eq_true, decide_eq_true_iff]
  constructor
  · intro a
    refine ⟨?_, fun i hi => ?_⟩
    · have := a 0 (List.mem_range.2 (by omega))
      simp only [imRow, Bool.and_eq_true, decide_eq_true_eq, hd] at this
      exact this.2.2.1
    · have hi' : i < ls.length := by simpa using hi
      have := a i hi
      simp only [imRow, tk i hi', Bool.not_not, Bool.and_eq_true, decide_eq_true_eq] at this
      simp only [mxRow, Bool.and_eq_true, decide_eq_true_eq]
      exact ⟨this.2.1, this.2.2.2, this.1⟩
  · rintro ⟨a, b⟩ i hi
    have hi' : i < ls.length := by simpa using hi
    have := b i hi
    simp only [mxRow, Bool.and_eq_true, decide_eq_true_eq] at this
    simp only [imRow, tk i hi', Bool.not_not, Bool.and_eq_true, decide_eq_true_eq]
    exact ⟨this.2.2, this.1, by omega, this.2.1⟩
theorem iVM_ev (ws : List Int) (ls : List (List Int)) (hw : ws.length ≤ 1048576) (hl : ls.length ≤ 1048576) (hr : ∀ r ∈ ls, r.length ≤ 1048576) : Ev (fun k => impl_ValidMixture.f k ws ls) (VM ws ls) := by
  unfold impl_ValidMixture.f VM
  simp only [within_eq, impl_size_int64.f, Option.bind_some]
  by_cases h1 : 1 ≤ (ls.length : Int) ∧ (ls.length : Int) ≤ 64
  · by_cases h2 : ws.length = ls.length
    · simp only [decide_eq_true h1, decide_eq_true h2, if_true, if_pos (show (ws.length : Int) = ls.length by omega), Bool.true_and]
      refine Ev.bind (areWithin_ev ws 1 1000000 (by omega)) ?_
      have e : mxW ws = ws.all fun n => decide (1 ≤ n ∧ n ≤ 1000000) := rfl
      rw [← e]
      cases mxW ws with
      | true =>
        simp only [if_true, Bool.true_and]
        refine Ev.bind (isum_ev ws (by omega)) ?_
        apply Ev.succ
        by_cases h4 : wsum 0 ws ≤ 1000000
        · simp only [impl_ValidMixture.j0, decide_eq_false (show ¬ wsum 0 ws > 1000000 by omega), Bool.false_eq_true, if_false, decide_eq_true h4, Bool.and_true]
          exact (im_l0 ws ls (by omega) hr).to (im_rows ls (by omega))
        · simp only [impl_ValidMixture.j0, decide_eq_true (show wsum 0 ws > 1000000 by omega), if_true, decide_eq_false h4, Bool.and_false]
          exact Ev.now _
      | false =>
        simp only [Bool.false_eq_true, if_false, Bool.false_and, Bool.and_false]
        apply Ev.succ
        simp only [impl_ValidMixture.j0, if_true]
        exact Ev.now _
    · simp only [decide_eq_true h1, decide_eq_false h2, if_true, if_neg (show ¬ (ws.length : Int) = ls.length by omega), Bool.false_and, Bool.and_false]
      apply Ev.succ
      simp only [impl_ValidMixture.j0, if_true]
      exact Ev.now _
  · simp only [decide_eq_false h1, Bool.false_eq_true, if_false, Bool.false_and]
    apply Ev.succ
    simp only [impl_ValidMixture.j0, if_true]
    exact Ev.now _

/-! impl.sums -/
theorem rdl_getS {xs : List (List Int)} {i : Nat} (h : i < xs.length) : rd_L1 xs (i : Int) = xs[i] := by
  unfold rd_L1; exact getD_get h
theorem sums_l0 (l : List (List Int)) (hl : l.length ≤ 1048576) (hr : ∀ r ∈ l, r.length ≤ 1048576) : ∀ (d i : Nat), d + i = l.length → Ev (fun k => impl_sums.l0 k ((l.take i).map (wsum 0)) l (l.length : Int) i) (l.map (wsum 0)) := by
  intro d
  induction d with
  | zero =>
    intro i hd
    apply Ev.succ
    simp only [impl_sums.l0, if_neg (show ¬ (i : Int) < (l.length : Int) by omega)]
    rw [List.take_of_length_le (by omega)]
    exact Ev.now _
  | succ d ih =>
    intro i hd
    have hi : i < l.length := by omega
    have hm := hr l[i] (List.getElem_mem hi)
    apply Ev.succ
    simp only [impl_sums.l0, if_pos (show (i : Int) < (l.length : Int) by omega), if_pos (show 0 ≤ (i : Int) by omega), rdl_getS hi, inc hi (by omega)]
    refine Ev.bind (isum_ev l[i] (by omega)) ?_
    simp only [if_pos (show ((l.take i).map (wsum 0)).length < 17592186044416 by simp; omega)]
    have := ih (i + 1) (by omega)
    rw [List.take_succ_eq_append_getElem hi, List.map_append] at this
    exact this
theorem sums_ev (l : List (List Int)) (hl : l.length ≤ 1048576) (hr : ∀ r ∈ l, r.length ≤ 1048576) : Ev (fun k => impl_sums.f k l) (l.map (wsum 0)) := by
  have := sums_l0 l hl hr l.length 0 (by omega)
  unfold impl_sums.f
  exact this

/-! slices.Sort   int64,int64  -/
theorem sort_eq {l : List Int} (h0 : 0 < l.length) (h : l.length < 4611686018427387904) : slices_Sort_int64_int64.f l = some (SORT l) := by
  unfold slices_Sort_int64_int64.f
  rw [if_neg (fun e => by rw [e] at h0; simp at h0), if_pos h]
  rfl

/-! slices.Compact   int64,int64  -/
theorem compact_eq {l : List Int} (h0 : 0 < l.length) : slices_Compact_int64_int64.f l = some (Go.Lib.compact l) := by
  unfold slices_Compact_int64_int64.f
  rw [if_neg (fun e => by rw [e] at h0; simp at h0)]

/-! the law -/
theorem rdl_w {xs : List (List Int)} {i : Nat} (h : i < xs.length) : rd_L1 xs (i : Int) = xs[i] := by
  unfold rd_L1; exact getD_get h
theorem sums_get {ls : List (List Int)} {i : Nat} (h : i < ls.length) : (ls.map (wsum 0)).getD i 0 = wsum 0 ls[i] := by
  rw [getD_map _ [] _ h]
  congr 1
  simp [List.getD_eq_getElem?_getD, h]
theorem index_l0 (l : List Int) (x : Int) (hl : l.length ≤ 1048576) : ∀ (d i : Nat), i + d = l.length → (∃ j, i ≤ j ∧ j < l.length ∧ l.getD j 0 = x) → ∃ j, j < l.length ∧ l.getD j 0 = x ∧ Ev (fun k => slices_Index_int64_int64.l0 k l x (l.length : Int) (i : Int)) (j : Int) := by
  intro d
  induction d with
  | zero => rintro i hi ⟨j, h1, h2, _⟩; omega
  | succ d ih =>
    rintro i hi ⟨j, h1, h2, h3⟩
    have hi' : i < l.length := by omega
    by_cases c : l.getD i 0 = x
    · refine ⟨i, hi', c, ?_⟩
      apply Ev.succ
      simp only [slices_Index_int64_int64.l0, if_pos (show (i : Int) < (l.length : Int) by omega), if_pos (show 0 ≤ (i : Int) by omega), if_pos (show x = rd l (i : Int) by rw [← c]; unfold rd; simp)]
      exact Ev.now _
    · obtain ⟨j', a, b, e⟩ := ih (i + 1) (by omega) ⟨j, by
        rcases Nat.lt_or_eq_of_le h1 with h | h
        · omega
        · subst h; exact absurd h3 c, h2, h3⟩
      refine ⟨j', a, b, ?_⟩
      apply Ev.succ
      simp only [slices_Index_int64_int64.l0, if_pos (show (i : Int) < (l.length : Int) by omega), if_pos (show 0 ≤ (i : Int) by omega), if_neg (show ¬ x = rd l (i : Int) by
        intro e; apply c; rw [e]; unfold rd; simp), inc hi' (by omega)]
      exact e
theorem index_ev {l : List Int} {x : Int} (hl : l.length ≤ 1048576) (h : x ∈ l) : ∃ j, j < l.length ∧ l.getD j 0 = x ∧ Ev (fun k => slices_Index_int64_int64.f k l x) (j : Int) := by
  obtain ⟨j, h1, h2⟩ := mem_getD h
  obtain ⟨j', a, b, e⟩ := index_l0 l x hl l.length 0 (by omega) ⟨j, by omega, h1, h2⟩
  refine ⟨j', a, b, ?_⟩
  unfold slices_Index_int64_int64.f
  exact e
theorem rdN (l : List Int) (j : Nat) : rd l (j : Int) = l.getD j 0 := by unfold rd; simp
/-- The program's loop. -/
theorem isw_l0 (W : List Int) (ls : List (List Int)) (hl : ls.length ≤ 1048576) (hr : ∀ r ∈ ls, r.length ≤ 1048576) (hW : ls.length ≤ W.length) : ∀ (d i : Nat), i + d = ls.length →
    Ev (fun k => impl_SumWeights.l0 k (KEYS ls) (WAT W (ls.map (wsum 0)) (KEYS ls) i) ls (ls.length : Int) (i : Int) W ls) (KEYS ls, WAT W (ls.map (wsum 0)) (KEYS ls) ls.length, true) := by
  have hkl := keys_length ls
  intro d
  induction d with
  | zero =>
    intro i hi
    obtain rfl : i = ls.length := by omega
    apply Ev.succ
    simp only [impl_SumWeights.l0, if_neg (show ¬ (ls.length : Int) < (ls.length : Int) by omega)]
    exact Ev.now _
  | succ d ih =>
    intro i hi
    have hi' : i < ls.length := by omega
    have hm : wsum 0 ls[i] ∈ KEYS ls := keys_mem.2 (List.mem_map.2 ⟨ls[i], List.getElem_mem hi', rfl⟩)
    obtain ⟨j, hj, ej, hev⟩ := index_ev (by omega) hm
    have hst := wat_step (W := W) (S := ls.map (wsum 0)) (k := i) (keys_rise ls) hj (by rw [sums_get hi']; exact ej)
    apply Ev.succ
    simp only [impl_SumWeights.l0, if_pos (show (i : Int) < (ls.length : Int) by omega), if_pos (show 0 ≤ (i : Int) by omega), rdl_w hi']
    refine Ev.bind (isum_ev ls[i] (by have := hr _ (List.getElem_mem hi'); omega)) (Ev.bind hev ?_)
    simp only [if_pos (show 0 ≤ (j : Int) by omega), wat_length, if_pos (show (j : Int) < ((KEYS ls).length : Int) by omega), if_pos (show (i : Int) < (W.length : Int) by omega), rdN, wat_get hj, Int.toNat_natCast, hst, inc hi' (by omega)]
    exact ih (i + 1) (by omega)
theorem ssw_l2 (W : List Int) (ls : List (List Int)) (hl : ls.length ≤ 1048576) (hr : ∀ r ∈ ls, r.length ≤ 1048576) (hW : ls.length ≤ W.length) (i : Nat) (hi : i < (KEYS ls).length) (R : List Int × List Int × Bool)
    (hend : Ev (fun k => spec_SumWeights.l1 k (KEYS ls) (WSP W (ls.map (wsum 0)) (KEYS ls) ls.length (i + 1) 0) ((i : Int) + 1) W ls) R) : ∀ (d m : Nat), m + d = ls.length →
    Ev (fun k => spec_SumWeights.l2 k (KEYS ls) (WSP W (ls.map (wsum 0)) (KEYS ls) ls.length i m) (i : Int) (m : Int) W ls) R := by
  have hkl := keys_length ls
  intro d
  induction d with
  | zero =>
    intro m hm
    obtain rfl : m = ls.length := by omega
    apply Ev.succ
    simp only [spec_SumWeights.l2, if_neg (show ¬ (ls.length : Int) < (ls.length : Int) by omega), inc hi (by omega), wsp_row]
    exact hend
  | succ d ih =>
    intro m hm
    have hm' : m < ls.length := by omega
    have eS := sums_get hm'
    apply Ev.succ
    simp only [spec_SumWeights.l2, if_pos (show (m : Int) < (ls.length : Int) by omega), if_pos (show 0 ≤ (m : Int) by omega), rdl_w hm']
    refine Ev.bind (ssum_ev ls[m] (by have := hr _ (List.getElem_mem hm'); omega)) ?_
    simp only [if_pos (show 0 ≤ (i : Int) by omega), if_pos (show (i : Int) < ((KEYS ls).length : Int) by omega), wsp_length, if_pos (show (m : Int) < (W.length : Int) by omega), rdN, wsp_get hi, Int.toNat_natCast, inc hm' (by omega)]
    by_cases c : wsum 0 ls[m] = (KEYS ls).getD i 0
    · simp only [if_pos c, wsp_set hi (show (ls.map (wsum 0)).getD m 0 = (KEYS ls).getD i 0 by rw [eS]; exact c)]
      exact ih (m + 1) (by omega)
    · simp only [if_neg c]
      rw [wsp_same (show ¬ (ls.map (wsum 0)).getD m 0 = (KEYS ls).getD i 0 by rw [eS]; exact c)]
      exact ih (m + 1) (by omega)
theorem ssw_l1 (W : List Int) (ls : List (List Int)) (hl : ls.length ≤ 1048576) (hr : ∀ r ∈ ls, r.length ≤ 1048576) (hW : ls.length ≤ W.length) : ∀ (d i : Nat), i + d = (KEYS ls).length →
    Ev (fun k => spec_SumWeights.l1 k (KEYS ls) (WSP W (ls.map (wsum 0)) (KEYS ls) ls.length i 0) (i : Int) W ls) (KEYS ls, WAT W (ls.map (wsum 0)) (KEYS ls) ls.length, true) := by
  intro d
  induction d with
  | zero =>
    intro i hi
    obtain rfl : i = (KEYS ls).length := by omega
    apply Ev.succ
    simp only [spec_SumWeights.l1, if_neg (show ¬ ((KEYS ls).length : Int) < ((KEYS ls).length : Int) by omega), wsp_end]
    exact Ev.now _
  | succ d ih =>
    intro i hi
    have := ih (i + 1) (by omega)
    rw [Int.natCast_succ] at this
    apply Ev.succ
    simp only [spec_SumWeights.l1, if_pos (show (i : Int) < ((KEYS ls).length : Int) by omega)]
    exact ssw_l2 W ls hl hr hW i (by omega) _ this ls.length 0 (by omega)
theorem ssw_l0 (W : List Int) (ls : List (List Int)) (hl : ls.length ≤ 65536) (hr : ∀ r ∈ ls, r.length ≤ 1048576) (hW : ls.length ≤ W.length) : ∀ (d i : Nat), i + d = ls.length → ∀ G : List Int, G.length ≤ i → G.Pairwise (· < ·) → (∀ x, x ∈ G ↔ x ∈ (ls.take i).map (wsum 0)) →
    Ev (fun k => spec_SumWeights.l0 k G (i : Int) W ls) (KEYS ls, WAT W (ls.map (wsum 0)) (KEYS ls) ls.length, true) := by
  intro d
  induction d with
  | zero =>
    intro i hi G hG hp hm
    obtain rfl : i = ls.length := by omega
    have e : G = KEYS ls := rise_ext _ _ hp (keys_rise ls) fun x => by rw [hm, keys_mem, List.take_length]
    subst e
    have := ssw_l1 W ls (by omega) hr hW (KEYS ls).length 0 (by omega)
    rw [wsp_zero] at this
    apply Ev.succ
    simp only [spec_SumWeights.l0, if_neg (show ¬ (ls.length : Int) < (ls.length : Int) by omega), if_pos (show 0 ≤ ((KEYS ls).length : Int) by omega), Int.toNat_natCast, if_pos (show (KEYS ls).length ≤ 35184372088832 by omega)]
    exact this
  | succ d ih =>
    intro i hi G hG hp hm
    have hi' : i < ls.length := by omega
    apply Ev.succ
    simp only [spec_SumWeights.l0, if_pos (show (i : Int) < (ls.length : Int) by omega), if_pos (show 0 ≤ (i : Int) by omega), rdl_w hi', inc hi' (by omega)]
    refine Ev.bind (ssum_ev ls[i] (by have := hr _ (List.getElem_mem hi'); omega)) (Ev.bind (put_ev G _ (by omega)) ?_)
    refine ih (i + 1) (by omega) _ (by have := put_length (wsum 0 ls[i]) G; omega) (put_rise _ _ hp) fun x => ?_
    rw [put_mem, hm, List.take_succ_eq_append_getElem hi', List.map_append, List.mem_append]
    simp only [List.map_cons, List.map_nil, List.mem_singleton]
    exact Or.comm
theorem sw_both (W : List Int) (ls : List (List Int)) (hw : W.length ≤ 1048576) (hl : ls.length ≤ 1048576) (hr : ∀ r ∈ ls, r.length ≤ 1048576) : ∃ r : List Int × List Int × Bool, Ev (fun k => spec_SumWeights.f k W ls) r ∧ Ev (fun k => impl_SumWeights.f k W ls) r ∧ r.1.length ≤ 65536 ∧ r.2.1.length ≤ 65536 := by
  unfold spec_SumWeights.f impl_SumWeights.f
  cases h : VM W ls with
  | false =>
    refine ⟨([], [], false), Ev.bind ((l06Is_ev W ls hw hl hr).to h) ?_, Ev.bind ((iVM_ev W ls hw hl hr).to h) ?_, by simp, by simp⟩
    · simp only [Bool.false_eq_true, if_false]
      exact Ev.now _
    · simp only [Bool.false_eq_true, if_false]
      exact Ev.now _
  | true =>
    obtain ⟨f1, f2, f3, f4, f5, f6, f7⟩ := vm_facts h
    have hkl := keys_length ls
    have hle : ls.length ≤ 65536 := by omega
    refine ⟨(KEYS ls, WAT W (ls.map (wsum 0)) (KEYS ls) ls.length, true), Ev.bind ((l06Is_ev W ls hw hl hr).to h) ?_, Ev.bind ((iVM_ev W ls hw hl hr).to h) ?_, by simp only; omega, by simp only [wat_length]; omega⟩
    · simp only [if_true]
      exact ssw_l0 W ls hle hr (by omega) ls.length 0 (by omega) [] (by simp) (by simp) (fun x => by simp)
    · simp only [if_true]
      have hs : 0 < (ls.map (wsum 0)).length := by rw [List.length_map]; omega
      have hs2 : 0 < (SORT (ls.map (wsum 0))).length := by rw [sort_length]; exact hs
      refine Ev.bind (sums_ev ls hl hr) ?_
      rw [sort_eq hs (by rw [List.length_map]; omega)]
      simp only [Option.bind_some, compact_eq hs2]
      have := isw_l0 W ls hl hr (by omega) ls.length 0 (by omega)
      rw [wat_zero] at this
      have e : Go.Lib.compact (SORT (ls.map (wsum 0))) = KEYS ls := rfl
      simp only [e, if_pos (show 0 ≤ ((KEYS ls).length : Int) by omega), Int.toNat_natCast, if_pos (show (KEYS ls).length ≤ 35184372088832 by omega)]
      exact this
theorem FnExactSumWeights : laws_FnExactSumWeights.Pure := by
  intro w l hw _ hl hr
  apply Ev.rounds
  unfold laws_FnExactSumWeights.f
  obtain ⟨s, hs, hs2⟩ := szMixture_ev w l hw hl (fun r h => (hr r h).1) 1048576 (by omega) (by omega)
  refine Ev.bind hs ?_
  rcases hs2 with rfl | ⟨h0, h1, h2, h3, h4⟩
  · simp only [if_pos (show (-1 : Int) < 0 by omega)]
    exact Ev.now _
  · simp only [if_neg (show ¬ s < 0 by omega)]
    have ht := toMixture_ev w l h2 h3 h4
    obtain ⟨⟨ks, ws, ok⟩, hsp, hi, hk, hwl⟩ := sw_both w l h2 h3 h4
    simp only at hk hwl
    have ek := eqInt64S_ev ks ks (by omega)
    have ew := eqInt64S_ev ws ws (by omega)
    obtain ⟨m, hm, hm0⟩ := markMixture_ev w l h2 h3 h4
    have hk1 := heldInt64S_ev 1 ks.length (by omega) (by omega) (by omega)
    have hw1 := heldInt64S_ev (1 + (ks.length : Int)) ws.length (by omega) (by omega) (by omega)
    refine Ev.bind ht (Ev.bind hsp (Ev.bind ht (Ev.bind hi (Ev.bind ek ?_))))
    simp only [decide_true, if_true, bne_self_eq_false]
    refine Ev.bind ew ?_
    simp only [decide_true, if_true]
    apply Ev.succ
    simp only [laws_FnExactSumWeights.j0, Bool.false_eq_true, if_false]
    refine Ev.bind ht (Ev.bind (eqMixture_ev w l h2 h3 h4) ?_)
    simp only [if_true]
    refine Ev.bind hm ?_
    simp only [if_neg (show ¬ m < 0 by omega)]
    refine Ev.bind ek ?_
    simp only [decide_true, if_true]
    refine Ev.bind ew ?_
    simp only [decide_true, if_true, bne_self_eq_false]
    apply Ev.succ
    simp only [laws_FnExactSumWeights.j1, Bool.false_eq_true, if_false]
    refine Ev.bind (markInt64S_ev ks 1 (by omega) (by omega) (by omega)) ?_
    refine Ev.bind (markInt64S_ev ws (1 + (ks.length : Int)) (by omega) (by omega) (by omega)) ?_
    refine Ev.bind hk1 ?_
    simp only [if_neg (show ¬ (1 + (ks.length : Int)) < 0 by omega)]
    refine Ev.bind hw1 ?_
    simp only [if_neg (show ¬ (1 + (ks.length : Int) + (ws.length : Int)) < 0 by omega), if_true]
    refine Ev.bind ht (Ev.bind hi (Ev.bind ek ?_))
    simp only [decide_true, if_true]
    refine Ev.bind ew ?_
    simp only [decide_true, if_true, bne_self_eq_false]
    apply Ev.succ
    simp only [laws_FnExactSumWeights.j2, Bool.false_eq_true, if_false]
    refine Ev.bind hk1 ?_
    simp only [if_neg (show ¬ (1 + (ks.length : Int)) < 0 by omega)]
    refine Ev.bind hw1 ?_
    simp only [if_neg (show ¬ (1 + (ks.length : Int) + (ws.length : Int)) < 0 by omega), if_true]
    exact Ev.now _


end Go.Proofs.Ytlhpejabdmejbaa.Pure
