/- Proved: the pure half of the law FnExactPermutationMixture: the printed functions answer true, for every input. No condition. -/
import Derived.Test.YtlhpejabdmejbaaPFnExactPermutationMixturex12
import Derived.Test.YtlhpejabdmejbaaBase
import Derived.Test.YtlhpejabdmejbaaLists
import Derived.Test.YtlhpejabdmejbaaMarks
import Derived.Test.YtlhpejabdmejbaaMarksS
import Derived.Test.YtlhpejabdmejbaaDbl
import Derived.Test.YtlhpejabdmejbaaTables
import Derived.Test.YtlhpejabdmejbaaCeil
import Derived.Test.YtlhpejabdmejbaaCut
import Derived.Test.YtlhpejabdmejbaaCond
import Derived.Test.YtlhpejabdmejbaaPerm
import Derived.Test.YtlhpejabdmejbaaPsum
import Derived.Test.YtlhpejabdmejbaaMix
import Derived.Test.YtlhpejabdmejbaaRnd
import Derived.Test.YtlhpejabdmejbaaPair
import Derived.Test.YtlhpejabdmejbaaSys
import Derived.Test.YtlhpejabdmejbaaFits
namespace Go.Proofs.Ytlhpejabdmejbaa.Pure
open Go.RowKit Go.Proofs.Ytlhpejabdmejbaa.PFnExactPermutationMixture Go.Proofs.YtlhpejabdmejbaaW.PrintWords Go.Proofs.YtlhpejabdmejbaaW.PrintLast Go.Proofs.YtlhpejabdmejbaaW.PrintMore Go.Proofs.Ytlhpejabdmejbaa.Base
set_option linter.unusedVariables false
set_option linter.unusedSimpArgs false


theorem eq_l0 (a b : List Int) (hl : a.length = b.length) (hm : a.length ≤ 9223372036854775806) : ∀ (d i : Nat), d + i = a.length → Ev (fun k => laws_eqInt64S.l0 k a b i) (decide (a.drop i = b.drop i)) := by
  intro d
  induction d with
  | zero =>
    intro i hd
    apply Ev.succ
    simp only [laws_eqInt64S.l0, if_neg (show ¬ (i : Int) < (a.length : Int) by omega)]
    rw [List.drop_of_length_le (by omega), List.drop_of_length_le (by omega)]
    exact Ev.now _
  | succ d ih =>
    intro i hd
    have hi : i < a.length := by omega
    have hi' : i < b.length := by omega
    apply Ev.succ
    simp only [laws_eqInt64S.l0, if_pos (show (i : Int) < (a.length : Int) by omega), if_pos (show 0 ≤ (i : Int) by omega), if_pos (show (i : Int) < (b.length : Int) by omega), rd_get hi, rd_get hi', w64 (show (-9223372036854775808) ≤ (i : Int) + 1 by omega) (by omega)]
    rw [List.drop_eq_getElem_cons hi, List.drop_eq_getElem_cons hi']
    by_cases h : a[i] = b[i]
    · simp only [if_pos h]
      exact (ih (i + 1) (by omega)).to (by simp only [List.cons.injEq, h, true_and])
    · simp only [if_neg h]
      exact (Ev.now _).to (by simp only [List.cons.injEq, h, false_and, decide_false])
theorem eqInt64S_ev (a b : List Int) (hm : a.length ≤ 9223372036854775806) : Ev (fun k => laws_eqInt64S.f k a b) (decide (a = b)) := by
  unfold laws_eqInt64S.f
  by_cases h : a.length = b.length
  · simp only [if_pos (show (a.length : Int) = (b.length : Int) by omega)]
    simpa using eq_l0 a b h hm a.length 0 (by omega)
  · simp only [if_neg (show ¬ (a.length : Int) = (b.length : Int) by omega)]
    exact (Ev.now _).to (by symm; simp; intro e; exact h (by rw [e]))


theorem rdl_get3 {xs : List (List Int)} {i : Nat} (h : i < xs.length) : rd_L1 xs (i : Int) = xs[i] := by
  unfold rd_L1; exact getD_get h
theorem eqss_l0 (a b : List (List Int)) (hl : a.length = b.length) (hm : a.length ≤ 9223372036854775806) (hr : ∀ r ∈ a, r.length ≤ 9223372036854775806) : ∀ (d i : Nat), d + i = a.length → Ev (fun k => laws_eqInt64SS.l0 k a b i) (decide (a.drop i = b.drop i)) := by
  intro d
  induction d with
  | zero =>
    intro i hd
    apply Ev.succ
    simp only [laws_eqInt64SS.l0, if_neg (show ¬ (i : Int) < (a.length : Int) by omega)]
    rw [List.drop_of_length_le (by omega), List.drop_of_length_le (by omega)]
    exact Ev.now _
  | succ d ih =>
    intro i hd
    have hi : i < a.length := by omega
    have hi' : i < b.length := by omega
    apply Ev.succ
    simp only [laws_eqInt64SS.l0, if_pos (show (i : Int) < (a.length : Int) by omega), if_pos (show 0 ≤ (i : Int) by omega), if_pos (show (i : Int) < (b.length : Int) by omega), rdl_get3 hi, rdl_get3 hi', w64 (show (-9223372036854775808) ≤ (i : Int) + 1 by omega) (by omega)]
    rw [List.drop_eq_getElem_cons hi, List.drop_eq_getElem_cons hi']
    refine Ev.bind (eqInt64S_ev a[i] b[i] (hr _ (List.getElem_mem hi))) ?_
    by_cases h : a[i] = b[i]
    · simp only [decide_eq_true h, if_true]
      exact (ih (i + 1) (by omega)).to (by simp only [List.cons.injEq, h, true_and])
    · simp only [decide_eq_false h, Bool.false_eq_true, if_false]
      exact (Ev.now _).to (by simp only [List.cons.injEq, h, false_and, decide_false])
theorem eqInt64SS_ev (a b : List (List Int)) (hm : a.length ≤ 9223372036854775806) (hr : ∀ r ∈ a, r.length ≤ 9223372036854775806) : Ev (fun k => laws_eqInt64SS.f k a b) (decide (a = b)) := by
  unfold laws_eqInt64SS.f
  by_cases h : a.length = b.length
  · simp only [if_pos (show (a.length : Int) = (b.length : Int) by omega)]
    simpa using eqss_l0 a b h hm hr a.length 0 (by omega)
  · simp only [if_neg (show ¬ (a.length : Int) = (b.length : Int) by omega)]
    exact (Ev.now _).to (by symm; simp; intro e; exact h (by rw [e]))


theorem eqMixture_ev (ws : List Int) (l : List (List Int)) (hw : ws.length ≤ 1048576) (hl : l.length ≤ 1048576) (hr : ∀ r ∈ l, r.length ≤ 1048576) : Ev (fun k => laws_eqMixture.f k ws l ws l) true := by
  unfold laws_eqMixture.f
  refine Ev.bind (eqInt64S_ev ws ws (by omega)) ?_
  simp only [decide_true, if_true]
  refine Ev.bind (eqInt64SS_ev l l (by omega) (fun r h => by have := hr r h; omega)) ?_
  simp only [decide_true, if_true]
  exact Ev.now _


theorem mark_l0 (l : List Int) (m : Int) (hl : l.length ≤ 140737488355328) (h0 : 0 ≤ m) (h1 : m ≤ 4611686018427387904) : ∀ (d i : Nat), d + i = l.length → Ev (fun k => laws_markInt64S.l0 k (MARKS m i ++ l.drop i) (m + (i : Int)) i) (m + (l.length : Int), MARKS m l.length) := by
  intro d
  induction d with
  | zero =>
    intro i hd
    apply Ev.succ
    simp only [laws_markInt64S.l0, if_neg (show ¬ (i : Int) < ((MARKS m i ++ l.drop i).length : Int) by simp [MARKS_length]; omega)]
    rw [show i = l.length by omega, List.drop_length, List.append_nil]
    exact Ev.now _
  | succ d ih =>
    intro i hd
    have hi : i < l.length := by omega
    apply Ev.succ
    simp only [laws_markInt64S.l0, if_pos (show (i : Int) < ((MARKS m i ++ l.drop i).length : Int) by simp [MARKS_length]; omega), if_pos (show 0 ≤ (i : Int) by omega), Int.toNat_natCast, marks_step l m i hi, w64 (show (-9223372036854775808) ≤ (i : Int) + 1 by omega) (by omega), w64 (show (-9223372036854775808) ≤ m + (i : Int) + 1 by omega) (by omega)]
    have := ih (i + 1) (by omega)
    rw [Int.natCast_succ, ← Int.add_assoc] at this
    exact this
theorem markInt64S_ev (l : List Int) (m : Int) (hl : l.length ≤ 140737488355328) (h0 : 0 ≤ m) (h1 : m ≤ 4611686018427387904) : Ev (fun k => laws_markInt64S.f k l m) (m + (l.length : Int), MARKS m l.length) := by
  have := mark_l0 l m hl h0 h1 l.length 0 (by omega)
  simpa [laws_markInt64S.f, MARKS] using this


theorem rdl_getM {xs : List (List Int)} {i : Nat} : rd_L1 xs (i : Int) = xs.getD i [] := by
  unfold rd_L1; simp
theorem mssk_l0 (l : List (List Int)) (m : Int) (hl : l.length ≤ 1048576) (hr : ∀ r ∈ l, r.length ≤ 1048576) (h0 : 0 ≤ m) (h1 : m ≤ 100000000000000) : ∀ (d i : Nat), d + i = l.length → Ev (fun k => laws_markInt64SS.l0 k (MSS m (l.take i) ++ l.drop i) (mtot_ m (l.take i)) i) (mtot_ m l, MSS m l) := by
  have hb : ((1048576 : Nat) : Int) * (l.length : Int) ≤ 1099511627776 := by
    have := Int.mul_le_mul_of_nonneg_left (show (l.length : Int) ≤ 1048576 by omega) (show (0 : Int) ≤ ((1048576 : Nat) : Int) by omega)
    omega
  intro d
  induction d with
  | zero =>
    intro i hd
    apply Ev.succ
    simp only [laws_markInt64SS.l0, if_neg (show ¬ (i : Int) < ((MSS m (l.take i) ++ l.drop i).length : Int) by rw [List.length_append, MSS_length]; simp; omega)]
    rw [List.take_of_length_le (by omega), List.drop_of_length_le (by omega), List.append_nil]
    exact Ev.now _
  | succ d ih =>
    intro i hd
    have hi : i < l.length := by omega
    have hm := hr (l.getD i []) (getD_mem hi)
    have hb2 := mtot_mono l m i 1048576 hr (by omega)
    apply Ev.succ
    simp only [laws_markInt64SS.l0, if_pos (show (i : Int) < ((MSS m (l.take i) ++ l.drop i).length : Int) by rw [List.length_append, MSS_length]; simp; omega), if_pos (show 0 ≤ (i : Int) by omega), rdl_getM, MSS_now l m i hi, inc hi (by omega), Int.toNat_natCast]
    refine Ev.bind (markInt64S_ev (l.getD i []) (mtot_ m (l.take i)) (by omega) (by omega) (by omega)) ?_
    simp only [MSS_step l m i hi]
    rw [← mtot_take l m i hi]
    exact ih (i + 1) (by omega)
theorem markSSk_ev (l : List (List Int)) (m : Int) (hl : l.length ≤ 1048576) (hr : ∀ r ∈ l, r.length ≤ 1048576) (h0 : 0 ≤ m) (h1 : m ≤ 100000000000000) : Ev (fun k => laws_markInt64SS.f k l m) (mtot_ m l, MSS m l) := by
  have := mssk_l0 l m hl hr h0 h1 l.length 0 (by omega)
  simpa [laws_markInt64SS.f, MSS, mtot_] using this


theorem markMixk_ev (ws : List Int) (ls : List (List Int)) (m : Int) (hw : ws.length ≤ 1048576) (hl : ls.length ≤ 1048576) (hr : ∀ r ∈ ls, r.length ≤ 1048576) (h0 : 0 ≤ m) (h1 : m ≤ 1000000000) : Ev (fun k => laws_markMixture.f k ws ls m) (mtot_ (m + (ws.length : Int)) ls, MARKS m ws.length, MSS (m + (ws.length : Int)) ls) := by
  unfold laws_markMixture.f
  exact Ev.bind (markInt64S_ev ws m (by omega) (by omega) (by omega)) (Ev.bind (markSSk_ev ls (m + (ws.length : Int)) hl hr (by omega) (by omega)) (Ev.now _))


theorem szS_eq (l : List Int) (a : Int) (hl : l.length ≤ 9223372036854775807) (h0 : 0 ≤ a) (h1 : a ≤ 1048576) : laws_szInt64S.f l a = some (if a < l.length then -1 else a - l.length) := by
  unfold laws_szInt64S.f
  rw [w64 (by omega) (by omega)]
  by_cases h : a < l.length
  · rw [if_pos (by omega), if_pos h]
  · rw [if_neg (by omega), if_neg h]


theorem rdl_get {xs : List (List Int)} {i : Nat} (h : i < xs.length) : rd_L1 xs (i : Int) = xs[i] := by
  unfold rd_L1; exact getD_get h
theorem szSS_l0 (l : List (List Int)) (a : Int) (hl : l.length ≤ 1048576) (hr : ∀ r ∈ l, r.length ≤ 9223372036854775807) (h1 : a ≤ 1048576) : ∀ (d i : Nat) (b : Int), d + i = l.length → 0 ≤ b → b ≤ a → (∀ (j : Nat) (h : j < l.length), j < i → ((l[j]).length : Int) ≤ a) → ∃ r : Int, Ev (fun k => laws_szInt64SS.l0 k l b i) r ∧ (r = -1 ∨ (0 ≤ r ∧ r ≤ a ∧ ∀ x ∈ l, (x.length : Int) ≤ a)) := by
  intro d
  induction d with
  | zero =>
    intro i b hd h0 hb hj
    refine ⟨b, ?_, .inr ⟨h0, hb, fun x hx => ?_⟩⟩
    · apply Ev.succ
      simp only [laws_szInt64SS.l0, if_neg (show ¬ (i : Int) < (l.length : Int) by omega)]
      exact Ev.now _
    · obtain ⟨j, hj', rfl⟩ := List.getElem_of_mem hx
      exact hj j hj' (by omega)
  | succ d ih =>
    intro i b hd h0 hb hj
    have hi : i < l.length := by omega
    have hri := hr l[i] (List.getElem_mem hi)
    by_cases h : b < (l[i]).length
    · refine ⟨-1, ?_, .inl rfl⟩
      apply Ev.succ
      simp only [laws_szInt64SS.l0, if_pos (show (i : Int) < (l.length : Int) by omega), if_pos (show 0 ≤ (i : Int) by omega), rdl_get hi, szS_eq l[i] b hri h0 (by omega), if_pos h, Option.bind_some, if_pos (show (-1 : Int) < 0 by omega)]
      exact Ev.now _
    · obtain ⟨r, hr1, hr2⟩ := ih (i + 1) (b - (l[i]).length) (by omega) (by omega) (by omega) (fun j hj1 hj2 => by
        by_cases e : j = i
        · subst e; omega
        · exact hj j hj1 (by omega))
      refine ⟨r, ?_, hr2⟩
      apply Ev.succ
      simp only [laws_szInt64SS.l0, if_pos (show (i : Int) < (l.length : Int) by omega), if_pos (show 0 ≤ (i : Int) by omega), rdl_get hi, szS_eq l[i] b hri h0 (by omega), if_neg h, Option.bind_some, if_neg (show ¬ b - (l[i]).length < 0 by omega), w64 (show (-9223372036854775808) ≤ (i : Int) + 1 by omega) (by omega)]
      exact hr1
theorem szSS_ev (l : List (List Int)) (a : Int) (hl : l.length ≤ 9223372036854775807) (hr : ∀ r ∈ l, r.length ≤ 9223372036854775807) (h0 : 0 ≤ a) (h1 : a ≤ 1048576) : ∃ r : Int, Ev (fun k => laws_szInt64SS.f k l a) r ∧ (r = -1 ∨ (0 ≤ r ∧ r ≤ a ∧ l.length ≤ 1048576 ∧ ∀ x ∈ l, x.length ≤ 1048576)) := by
  unfold laws_szInt64SS.f
  rw [w64 (show (-9223372036854775808) ≤ a - (l.length : Int) by omega) (by omega)]
  by_cases h : a - (l.length : Int) < 0
  · simp only [if_pos h]
    exact ⟨-1, Ev.now _, .inl rfl⟩
  · simp only [if_neg h]
    obtain ⟨r, h1', h2⟩ := szSS_l0 l a (by omega) hr h1 l.length 0 (a - l.length) (by omega) (by omega) (by omega) (fun j _ hj => by omega)
    refine ⟨r, h1', ?_⟩
    rcases h2 with h2 | ⟨h2, h3, h4⟩
    · exact .inl h2
    · exact .inr ⟨h2, h3, by omega, fun x hx => by have := h4 x hx; omega⟩


theorem own_eq (l : List Int) (h : l.length ≤ 1048576) : spec_l00Own.f l = some l := by
  unfold spec_l00Own.f
  simp only [Option.bind_some, List.length_nil, List.nil_append]
  rw [if_pos (by omega)]


theorem in_eq (a b c : Int) : spec_l00In.f a b c = some (decide (b ≤ a ∧ a ≤ c)) := by
  unfold spec_l00In.f
  by_cases h : b ≤ a
  · rw [if_pos (show a ≥ b from h)]; simp [h]
  · rw [if_neg (show ¬ a ≥ b from h)]; simp [h]


theorem ssum_l0 (l : List Int) (hl : l.length ≤ 9223372036854775806) : ∀ (d i : Nat) (acc : Int), d + i = l.length → Ev (fun k => spec_l01Sum.l0 k l acc i) (wsum acc (l.drop i)) := by
  intro d
  induction d with
  | zero =>
    intro i acc hd
    apply Ev.succ
    simp only [spec_l01Sum.l0, if_neg (show ¬ (i : Int) < (l.length : Int) by omega)]
    rw [List.drop_of_length_le (by omega)]
    exact Ev.now _
  | succ d ih =>
    intro i acc hd
    have hi : i < l.length := by omega
    apply Ev.succ
    simp only [spec_l01Sum.l0, if_pos (show (i : Int) < (l.length : Int) by omega), if_pos (show 0 ≤ (i : Int) by omega), rd_get hi, w64 (show (-9223372036854775808) ≤ (i : Int) + 1 by omega) (by omega)]
    rw [List.drop_eq_getElem_cons hi]
    exact ih (i + 1) _ (by omega)
theorem ssum_ev (l : List Int) (hl : l.length ≤ 9223372036854775806) : Ev (fun k => spec_l01Sum.f k l) (wsum 0 l) := by
  have := ssum_l0 l hl l.length 0 0 (by omega)
  simpa [spec_l01Sum.f] using this


theorem rdl_getU {xs : List (List Int)} {i : Nat} : rd_L1 xs (i : Int) = xs.getD i [] := by
  unfold rd_L1; simp
theorem rd_getDU {xs : List Int} {i : Nat} : rd xs (i : Int) = xs.getD i 0 := by
  unfold rd; simp
theorem db_l2 (l : List (List Int)) (hn : 1 ≤ l.length) (hl : l.length ≤ 6) (hr : ∀ r ∈ l, r.length ≤ 1048576) : Ev (fun k => spec_l06Doubly.l2 k l (l.length : Int) (stair (dcol l) l.length l.length 0) 0) ((List.range l.length).all (fun i => decide (dR l i = dC l 0) && decide (dC l i = dC l 0)) && decide (dC l 0 > 0)) := by
  have g : ∀ k, k < l.length → rd (stair (dcol l) l.length l.length 0) (k : Int) = dC l k := by
    intro k hk
    rw [rd_getDU, stair_get _ _ _ _ _ hk]
    simp [dcol, dC]
  have g0 : rd (stair (dcol l) l.length l.length 0) 0 = dC l 0 := g 0 (by omega)
  refine all_step l.length (fun i => decide (dR l i = dC l 0) && decide (dC l i = dC l 0)) (fun k i => spec_l06Doubly.l2 k l (l.length : Int) (stair (dcol l) l.length l.length 0) i) ?_ ?_
  · apply Ev.succ
    simp only [spec_l06Doubly.l2, if_neg (show ¬ (l.length : Int) < l.length by omega), stair_length, if_pos (show 0 < (l.length : Int) by omega), g0]
    exact Ev.now _
  · intro i hi s hs
    have hm := hr (l.getD i []) (by simp [List.getD_eq_getElem?_getD, hi])
    apply Ev.succ
    simp only [spec_l06Doubly.l2, if_pos (show (i : Int) < l.length by omega), if_pos (show 0 ≤ (i : Int) by omega), rdl_getU, stair_length, if_pos (show 0 < (l.length : Int) by omega), g0, g i hi, inc hi (by omega)]
    refine Ev.bind (ssum_ev (l.getD i []) (by omega)) ?_
    have e0 : wsum 0 (l.getD i []) = dR l i := rfl
    rw [e0]
    by_cases e1 : dR l i = dC l 0
    · by_cases e2 : dC l i = dC l 0
      · simp only [if_pos e1, if_pos e2, decide_eq_true e1, decide_eq_true e2, Bool.and_self, Bool.true_and]
        exact hs
      · simp only [if_pos e1, if_neg e2, decide_eq_true e1, decide_eq_false e2, Bool.and_false, Bool.false_and]
        exact Ev.now _
    · simp only [if_neg e1, decide_eq_false e1, Bool.false_and]
      exact Ev.now _
theorem db_l1 (l : List (List Int)) (hl : l.length ≤ 6) (i : Nat) (hi : i < l.length) (hr : (l.getD i []).length = l.length) {s : Bool} (hs : Ev (fun k => spec_l06Doubly.l0 k l (l.length : Int) (stair (dcol l) l.length (i + 1) 0) ((i : Int) + 1)) s) : Ev (fun k => spec_l06Doubly.l1 k l (l.length : Int) (stair (dcol l) l.length i 0) i 0) (((l.getD i []).all fun x => decide (0 ≤ x ∧ x ≤ 1000)) && s) := by
  rw [← all_range (l.getD i []) _ 0, hr]
  refine all_step l.length (fun j => decide (0 ≤ (l.getD i []).getD j 0 ∧ (l.getD i []).getD j 0 ≤ 1000)) (fun k j => spec_l06Doubly.l1 k l (l.length : Int) (stair (dcol l) l.length i j) i j) ?_ ?_
  · apply Ev.succ
    simp only [spec_l06Doubly.l1, if_neg (show ¬ (l.length : Int) < l.length by omega), stair_end, inc hi (by omega)]
    exact hs
  · intro j hj q hq
    apply Ev.succ
    simp only [spec_l06Doubly.l1, if_pos (show (j : Int) < l.length by omega), if_pos (show 0 ≤ (i : Int) by omega), if_pos (show (i : Int) < l.length by omega), if_pos (show 0 ≤ (j : Int) by omega), rdl_getU, hr, rd_getDU, in_eq, Option.bind_some, stair_length, Int.toNat_natCast, stair_get (dcol l) l.length i j j hj, if_neg (show ¬ j < j by omega), dcol_succ l i j hi, stair_set (dcol l) l.length i j hj, inc hj (by omega)]
    by_cases e : 0 ≤ (l.getD i []).getD j 0 ∧ (l.getD i []).getD j 0 ≤ 1000
    · simp only [decide_eq_true e, if_true, Bool.true_and]
      exact hq
    · simp only [decide_eq_false e, Bool.false_eq_true, if_false, Bool.false_and]
      exact Ev.now _
theorem db_l0 (l : List (List Int)) (hn : 1 ≤ l.length) (hl : l.length ≤ 6) (hr : ∀ r ∈ l, r.length ≤ 1048576) : Ev (fun k => spec_l06Doubly.l0 k l (l.length : Int) (stair (dcol l) l.length 0 0) 0) ((List.range l.length).all (drow l) && ((List.range l.length).all (fun i => decide (dR l i = dC l 0) && decide (dC l i = dC l 0)) && decide (dC l 0 > 0))) := by
  refine all_step l.length (drow l) (fun k i => spec_l06Doubly.l0 k l (l.length : Int) (stair (dcol l) l.length i 0) i) ?_ ?_
  · apply Ev.succ
    simp only [spec_l06Doubly.l0, if_neg (show ¬ (l.length : Int) < l.length by omega)]
    exact db_l2 l hn hl hr
  · intro i hi s hs
    apply Ev.succ
    simp only [spec_l06Doubly.l0, if_pos (show (i : Int) < l.length by omega), if_pos (show 0 ≤ (i : Int) by omega), rdl_getU, drow]
    by_cases e : (l.getD i []).length = l.length
    · simp only [if_pos (show ((l.getD i []).length : Int) = l.length by omega), decide_eq_true e, Bool.true_and]
      exact db_l1 l hl i hi e hs
    · simp only [if_neg (show ¬ ((l.getD i []).length : Int) = l.length by omega), decide_eq_false e, Bool.false_and]
      exact Ev.now _
theorem doubly_ev (l : List (List Int)) (hm : l.length ≤ 1048576) (hr : ∀ r ∈ l, r.length ≤ 1048576) : Ev (fun k => spec_l06Doubly.f k l) (DB l) := by
  unfold spec_l06Doubly.f DB
  simp only [in_eq, Option.bind_some]
  by_cases h : 1 ≤ (l.length : Int) ∧ (l.length : Int) ≤ 6
  · simp only [decide_eq_true h, if_true, Bool.true_and, if_pos (show 0 ≤ (l.length : Int) by omega), Int.toNat_natCast, if_pos (show l.length ≤ 35184372088832 by omega)]
    have := db_l0 l (by omega) (by omega) hr
    rw [stair_zero] at this
    have e : (List.range l.length).map (dcol l 0) = List.replicate l.length 0 := by
      apply List.ext_getElem
      · simp
      · intro k h1 h2
        simp [dcol, colOf, wsum]
    rw [e] at this
    exact this
  · simp only [decide_eq_false h, Bool.false_eq_true, if_false, Bool.false_and]
    exact Ev.now _


theorem has_ev (l : List Int) (x : Int) (hl : l.length ≤ 1048576) : Ev (fun k => spec_l00Has.f k l x) (decide (x ∈ l)) := by
  have key : ∀ (d i : Nat), i + d = l.length → Ev (fun k => spec_l00Has.l0 k l x (i : Int)) (decide (x ∈ l.drop i)) := by
    intro d
    induction d with
    | zero =>
      intro i hi
      apply Ev.succ
      simp only [spec_l00Has.l0, if_neg (show ¬ (i : Int) < (l.length : Int) by omega)]
      rw [List.drop_of_length_le (by omega)]
      exact (Ev.now _).to (by simp)
    | succ d ih =>
      intro i hi
      have hi' : i < l.length := by omega
      apply Ev.succ
      simp only [spec_l00Has.l0, if_pos (show (i : Int) < (l.length : Int) by omega), if_pos (show 0 ≤ (i : Int) by omega), rd_get hi', inc hi' (by omega)]
      rw [List.drop_eq_getElem_cons hi']
      by_cases c : l[i] = x
      · simp only [if_pos c]
        exact (Ev.now _).to (decide_eq_true (by rw [c]; exact List.mem_cons_self)).symm
      · simp only [if_neg c]
        exact (ih (i + 1) (by omega)).to (decide_eq_decide.2 ⟨fun h => List.mem_cons_of_mem _ h, fun h => (List.mem_cons.1 h).resolve_left fun e => c e.symm⟩)
  unfold spec_l00Has.f
  exact key l.length 0 (by omega)


theorem contains_ev (l : List Int) (x : Int) (hl : l.length ≤ 1048576) : Ev (fun k => slices_Contains_int64_int64.f k l x) (decide (x ∈ l)) := by
  have key : ∀ (d i : Nat), i + d = l.length → ∃ r : Int, Ev (fun k => slices_Index_int64_int64.l0 k l x (l.length : Int) (i : Int)) r ∧ decide (r ≥ 0) = decide (x ∈ l.drop i) := by
    intro d
    induction d with
    | zero =>
      intro i hi
      refine ⟨-1, ?_, ?_⟩
      · apply Ev.succ
        simp only [slices_Index_int64_int64.l0, if_neg (show ¬ (i : Int) < (l.length : Int) by omega)]
        exact Ev.now _
      · rw [List.drop_of_length_le (by omega)]; simp
    | succ d ih =>
      intro i hi
      have hi' : i < l.length := by omega
      rw [List.drop_eq_getElem_cons hi']
      by_cases c : x = l[i]
      · refine ⟨i, ?_, by rw [decide_eq_true (show (i : Int) ≥ 0 by omega), decide_eq_true (show x ∈ l[i] :: l.drop (i + 1) by rw [c]; exact List.mem_cons_self)]⟩
        apply Ev.succ
        simp only [slices_Index_int64_int64.l0, if_pos (show (i : Int) < (l.length : Int) by omega), if_pos (show 0 ≤ (i : Int) by omega), rd_get hi', if_pos c]
        exact Ev.now _
      · obtain ⟨r, h1, h2⟩ := ih (i + 1) (by omega)
        refine ⟨r, ?_, by rw [h2]; exact decide_eq_decide.2 ⟨fun h => List.mem_cons_of_mem _ h, fun h => (List.mem_cons.1 h).resolve_left c⟩⟩
        apply Ev.succ
        simp only [slices_Index_int64_int64.l0, if_pos (show (i : Int) < (l.length : Int) by omega), if_pos (show 0 ≤ (i : Int) by omega), rd_get hi', if_neg c, inc hi' (by omega)]
        exact h1
  obtain ⟨r, h1, h2⟩ := key l.length 0 (by omega)
  rw [List.drop_zero] at h2
  unfold slices_Contains_int64_int64.f slices_Index_int64_int64.f
  exact Ev.bind h1 ((Ev.now _).to h2)


theorem clone_eq (l : List Int) (h : l.length ≤ 1048576) : slices_Clone_int64_int64.f l = some l := by
  unfold slices_Clone_int64_int64.f
  simp only [Option.bind_some, List.length_nil, List.nil_append]
  rw [if_pos (by omega)]


theorem rdl_fit {xs : List (List Int)} {i : Nat} : rd_L1 xs (i : Int) = xs.getD i [] := by
  unfold rd_L1; rfl
def fitR (o : Option (List Int)) : List Int × Bool := match o with | some l => (l, true) | none => ([], false)
theorem fit_loop {n : Nat} {L : List (List Int)} (hs : SQ n L) (hn : n ≤ 1000) (d : Nat) (pre : List Int) (hd : pre.length + (d + 1) = n) (ih : ∀ x : Int, Ev (fun k => impl_fitting.f k L (pre ++ [x])) (fitR (FIT L d (pre ++ [x])))) : ∀ (e c : Nat), c + e = n →
    Ev (fun k => impl_fitting.l0 k L pre (L.getD pre.length []) ((L.getD pre.length []).length : Int) (c : Int)) (fitR ((List.range' c e).findSome? fun c => if (L.getD pre.length []).getD c 0 = 0 ∨ (c : Int) ∈ pre then none else FIT L d (pre ++ [(c : Int)])))
  | 0, c, hc => by
    apply Ev.succ
    simp only [impl_fitting.l0, hs.2 _ (show pre.length < n by omega), if_neg (show ¬ (c : Int) < (n : Int) by omega), List.range'_zero, List.findSome?_nil, fitR]
    exact Ev.now _
  | e + 1, c, hc => by
    have hl := hs.2 _ (show pre.length < n by omega)
    have next := fit_loop hs hn d pre hd ih e (c + 1) (by omega)
    rw [List.range'_succ, List.findSome?_cons]
    apply Ev.succ
    simp only [impl_fitting.l0, hl, if_pos (show (c : Int) < (n : Int) by omega), if_pos (show 0 ≤ (c : Int) by omega), mrd]
    rw [hl] at next
    have skip : Ev (fun k => impl_fitting.j1 k L pre (c : Int) (L.getD pre.length []) (n : Int) (c : Int) true) (fitR ((List.range' (c + 1) e).findSome? fun c => if (L.getD pre.length []).getD c 0 = 0 ∨ (c : Int) ∈ pre then none else FIT L d (pre ++ [(c : Int)]))) := by
      apply Ev.succ
      simp only [impl_fitting.j1, if_true, inc (show c < n by omega) (by omega)]
      exact next
    by_cases c1 : (L.getD pre.length []).getD c 0 = 0
    · simp only [c1, if_true, true_or]
      exact skip
    · simp only [c1, if_false, false_or]
      refine Ev.bind (contains_ev pre (c : Int) (by omega)) ?_
      by_cases c2 : (c : Int) ∈ pre
      · simp only [decide_eq_true c2, if_pos c2]
        exact skip
      · simp only [decide_eq_false c2, if_neg c2]
        apply Ev.succ
        simp only [impl_fitting.j1, Bool.false_eq_true, if_false, clone_eq pre (by omega), Option.bind_some, if_pos (show pre.length < 17592186044416 by omega)]
        refine Ev.bind (ih (c : Int)) ?_
        cases FIT L d (pre ++ [(c : Int)]) with
        | some l => simp only [fitR, if_true]; exact Ev.now _
        | none =>
          simp only [fitR, Bool.false_eq_true, if_false, inc (show c < n by omega) (by omega)]
          exact next
theorem fitting_ev {n : Nat} {L : List (List Int)} (hs : SQ n L) (hn : n ≤ 1000) : ∀ (d : Nat) (pre : List Int), pre.length + d = n → Ev (fun k => impl_fitting.f k L pre) (fitR (FIT L d pre))
  | 0, pre, hd => by
    apply Ev.succ
    simp only [impl_fitting.f, hs.1, if_pos (show (pre.length : Int) = (n : Int) by omega), FIT, fitR]
    exact Ev.now _
  | d + 1, pre, hd => by
    have ih : ∀ x : Int, Ev (fun k => impl_fitting.f k L (pre ++ [x])) (fitR (FIT L d (pre ++ [x]))) := fun x => fitting_ev hs hn d (pre ++ [x]) (by simp; omega)
    have h1 := fit_loop hs hn d pre hd ih n 0 (by omega)
    apply Ev.succ
    simp only [impl_fitting.f, hs.1, if_neg (show ¬ (pre.length : Int) = (n : Int) by omega), if_pos (show 0 ≤ (pre.length : Int) by omega), if_pos (show (pre.length : Int) < (n : Int) by omega), rdl_fit, FIT, hs.2 _ (show pre.length < n by omega), List.range_eq_range']
    rw [hs.2 _ (show pre.length < n by omega)] at h1
    exact h1


theorem sfit_loop {n : Nat} {L : List (List Int)} (hs : SQ n L) (hn : n ≤ 1000) (d : Nat) (pre : List Int) (hd : pre.length + (d + 1) = n) (ih : ∀ x : Int, Ev (fun k => spec_l06Fits.f k L (pre ++ [x])) (fitR (FIT L d (pre ++ [x])))) : ∀ (e c : Nat), c + e = n →
    Ev (fun k => spec_l06Fits.l0 k L pre (pre.length : Int) (c : Int)) (fitR ((List.range' c e).findSome? fun c => if (L.getD pre.length []).getD c 0 = 0 ∨ (c : Int) ∈ pre then none else FIT L d (pre ++ [(c : Int)])))
  | 0, c, hc => by
    apply Ev.succ
    simp only [spec_l06Fits.l0, hs.1, if_neg (show ¬ (c : Int) < (n : Int) by omega), List.range'_zero, List.findSome?_nil, fitR]
    exact Ev.now _
  | e + 1, c, hc => by
    have hl := hs.2 _ (show pre.length < n by omega)
    have next := sfit_loop hs hn d pre hd ih e (c + 1) (by omega)
    rw [List.range'_succ, List.findSome?_cons]
    apply Ev.succ
    simp only [spec_l06Fits.l0, hs.1, if_pos (show (c : Int) < (n : Int) by omega), if_pos (show 0 ≤ (pre.length : Int) by omega), if_pos (show (pre.length : Int) < (n : Int) by omega), if_pos (show 0 ≤ (c : Int) by omega), rdl_fit, hl, mrd]
    have skip : Ev (fun k => spec_l06Fits.j1 k L pre (pre.length : Int) (c : Int) true) (fitR ((List.range' (c + 1) e).findSome? fun c => if (L.getD pre.length []).getD c 0 = 0 ∨ (c : Int) ∈ pre then none else FIT L d (pre ++ [(c : Int)]))) := by
      apply Ev.succ
      simp only [spec_l06Fits.j1, if_true, inc (show c < n by omega) (by omega)]
      exact next
    by_cases c1 : (L.getD pre.length []).getD c 0 = 0
    · simp only [c1, if_true, true_or]
      exact skip
    · simp only [c1, if_false, false_or]
      refine Ev.bind (has_ev pre (c : Int) (by omega)) ?_
      by_cases c2 : (c : Int) ∈ pre
      · simp only [decide_eq_true c2, if_pos c2]
        exact skip
      · simp only [decide_eq_false c2, if_neg c2]
        apply Ev.succ
        simp only [spec_l06Fits.j1, Bool.false_eq_true, if_false, own_eq pre (by omega), Option.bind_some, if_pos (show pre.length < 17592186044416 by omega)]
        refine Ev.bind (ih (c : Int)) ?_
        cases FIT L d (pre ++ [(c : Int)]) with
        | some l => simp only [fitR, if_true]; exact Ev.now _
        | none =>
          simp only [fitR, Bool.false_eq_true, if_false, inc (show c < n by omega) (by omega)]
          exact next
theorem sfits_ev {n : Nat} {L : List (List Int)} (hs : SQ n L) (hn : n ≤ 1000) : ∀ (d : Nat) (pre : List Int), pre.length + d = n → Ev (fun k => spec_l06Fits.f k L pre) (fitR (FIT L d pre))
  | 0, pre, hd => by
    apply Ev.succ
    simp only [spec_l06Fits.f, hs.1, if_pos (show (pre.length : Int) = (n : Int) by omega), FIT, fitR]
    exact Ev.now _
  | d + 1, pre, hd => by
    have ih : ∀ x : Int, Ev (fun k => spec_l06Fits.f k L (pre ++ [x])) (fitR (FIT L d (pre ++ [x]))) := fun x => sfits_ev hs hn d (pre ++ [x]) (by simp; omega)
    have h1 := sfit_loop hs hn d pre hd ih n 0 (by omega)
    apply Ev.succ
    simp only [spec_l06Fits.f, hs.1, if_neg (show ¬ (pre.length : Int) = (n : Int) by omega), FIT, hs.2 _ (show pre.length < n by omega), List.range_eq_range']
    exact h1


theorem min_eq (a b : Int) : spec_l00Min.f a b = some (min a b) := by
  unfold spec_l00Min.f
  by_cases h : a < b
  · rw [if_pos h, Int.min_eq_left (by omega)]
  · rw [if_neg h, Int.min_eq_right (by omega)]


theorem sleq_l0 (a b : List Int) (hl : a.length = b.length) (hm : a.length ≤ 9223372036854775806) : ∀ (d i : Nat), d + i = a.length → Ev (fun k => slices_Equal_int64_int64.l0 k a b (a.length : Int) i) (decide (a.drop i = b.drop i)) := by
  intro d
  induction d with
  | zero =>
    intro i hd
    apply Ev.succ
    simp only [slices_Equal_int64_int64.l0, if_neg (show ¬ (i : Int) < (a.length : Int) by omega)]
    rw [List.drop_of_length_le (by omega), List.drop_of_length_le (by omega)]
    exact Ev.now _
  | succ d ih =>
    intro i hd
    have hi : i < a.length := by omega
    have hi' : i < b.length := by omega
    apply Ev.succ
    simp only [slices_Equal_int64_int64.l0, if_pos (show (i : Int) < (a.length : Int) by omega), if_pos (show 0 ≤ (i : Int) by omega), if_pos (show (i : Int) < (b.length : Int) by omega), rd_get hi, rd_get hi', w64 (show (-9223372036854775808) ≤ (i : Int) + 1 by omega) (by omega)]
    rw [List.drop_eq_getElem_cons hi, List.drop_eq_getElem_cons hi']
    by_cases h : a[i] = b[i]
    · simp only [if_pos h]
      exact (ih (i + 1) (by omega)).to (by simp only [List.cons.injEq, h, true_and])
    · simp only [if_neg h]
      exact (Ev.now _).to (by simp only [List.cons.injEq, h, false_and, decide_false])
theorem slEqual_ev (a b : List Int) (hm : a.length ≤ 9223372036854775806) : Ev (fun k => slices_Equal_int64_int64.f k a b) (decide (a = b)) := by
  unfold slices_Equal_int64_int64.f
  by_cases h : a.length = b.length
  · simp only [if_pos (show (a.length : Int) = (b.length : Int) by omega)]
    simpa using sleq_l0 a b h hm a.length 0 (by omega)
  · simp only [if_neg (show ¬ (a.length : Int) = (b.length : Int) by omega)]
    exact (Ev.now _).to (by symm; simp; intro e; exact h (by rw [e]))


theorem isum_l0 (l : List Int) (hl : l.length ≤ 9223372036854775806) : ∀ (d i : Nat) (acc : Int), d + i = l.length → Ev (fun k => impl_sum.l0 k acc l (l.length : Int) i) (wsum acc (l.drop i)) := by
  intro d
  induction d with
  | zero =>
    intro i acc hd
    apply Ev.succ
    simp only [impl_sum.l0, if_neg (show ¬ (i : Int) < (l.length : Int) by omega)]
    rw [List.drop_of_length_le (by omega)]
    exact Ev.now _
  | succ d ih =>
    intro i acc hd
    have hi : i < l.length := by omega
    apply Ev.succ
    simp only [impl_sum.l0, if_pos (show (i : Int) < (l.length : Int) by omega), if_pos (show 0 ≤ (i : Int) by omega), rd_get hi, w64 (show (-9223372036854775808) ≤ (i : Int) + 1 by omega) (by omega)]
    rw [List.drop_eq_getElem_cons hi]
    exact ih (i + 1) _ (by omega)
theorem isum_ev (l : List Int) (hl : l.length ≤ 9223372036854775806) : Ev (fun k => impl_sum.f k l) (wsum 0 l) := by
  have := isum_l0 l hl l.length 0 0 (by omega)
  simpa [impl_sum.f] using this


theorem within_eq (a b c : Int) : impl_within.f a b c = some (decide (b ≤ a ∧ a ≤ c)) := by
  unfold impl_within.f
  by_cases h : b ≤ a
  · rw [if_pos h]; simp [h]
  · rw [if_neg h]; simp [h]


theorem aw_l0 (l : List Int) (a b : Int) (hl : l.length ≤ 9223372036854775806) : ∀ (d i : Nat), d + i = l.length → ∃ r : Int, Ev (fun k => slices_IndexFunc_int64_int64_impl_areWithin_1.l0 k l (l.length : Int) i a b) r ∧ (decide (r ≥ 0) = !(l.drop i).all fun n => decide (a ≤ n ∧ n ≤ b)) := by
  intro d
  induction d with
  | zero =>
    intro i hd
    refine ⟨-1, ?_, ?_⟩
    · apply Ev.succ
      simp only [slices_IndexFunc_int64_int64_impl_areWithin_1.l0, if_neg (show ¬ (i : Int) < (l.length : Int) by omega)]
      exact Ev.now _
    · rw [List.drop_of_length_le (by omega)]; rfl
  | succ d ih =>
    intro i hd
    have hi : i < l.length := by omega
    obtain ⟨r, hr, he⟩ := ih (i + 1) (by omega)
    by_cases h : a ≤ l[i] ∧ l[i] ≤ b
    · refine ⟨r, ?_, ?_⟩
      · apply Ev.succ
        simp only [slices_IndexFunc_int64_int64_impl_areWithin_1.l0, if_pos (show (i : Int) < (l.length : Int) by omega), if_pos (show 0 ≤ (i : Int) by omega), rd_get hi, impl_areWithin_1.f, within_eq, decide_eq_true h, Option.bind_some, w64 (show (-9223372036854775808) ≤ (i : Int) + 1 by omega) (by omega)]
        simpa using hr
      · rw [he, List.drop_eq_getElem_cons hi, List.all_cons, decide_eq_true h, Bool.true_and]
    · refine ⟨i, ?_, ?_⟩
      · apply Ev.succ
        simp only [slices_IndexFunc_int64_int64_impl_areWithin_1.l0, if_pos (show (i : Int) < (l.length : Int) by omega), if_pos (show 0 ≤ (i : Int) by omega), rd_get hi, impl_areWithin_1.f, within_eq, decide_eq_false h, Option.bind_some]
        simpa using Ev.now _
      · rw [List.drop_eq_getElem_cons hi, List.all_cons, decide_eq_false h, Bool.false_and]; simp
theorem areWithin_ev (l : List Int) (a b : Int) (hl : l.length ≤ 9223372036854775806) : Ev (fun k => impl_areWithin.f k l a b) (l.all fun n => decide (a ≤ n ∧ n ≤ b)) := by
  obtain ⟨r, hr, he⟩ := aw_l0 l a b hl l.length 0 (by omega)
  unfold impl_areWithin.f
  simp only [slices_ContainsFunc_int64_int64_impl_areWithin_1.f, slices_IndexFunc_int64_int64_impl_areWithin_1.f]
  refine Ev.bind (Ev.bind hr (Ev.now _)) ?_
  refine (Ev.now _).to ?_
  rw [he, List.drop_zero, Bool.not_not]


theorem rdl_getS {xs : List (List Int)} {i : Nat} (h : i < xs.length) : rd_L1 xs (i : Int) = xs[i] := by
  unfold rd_L1; exact getD_get h
theorem sums_l0 (l : List (List Int)) (hl : l.length ≤ 1048576) (hr : ∀ r ∈ l, r.length ≤ 1048576) : ∀ (d i : Nat), d + i = l.length → Ev (fun k => impl_sums.l0 k ((l.take i).map (wsum 0)) l (l.length : Int) i) (l.map (wsum 0)) := by
  intro d
  induction d with
  | zero =>
    intro i hd
    apply Ev.succ
    simp only [impl_sums.l0, if_neg (show ¬ (i : Int) < (l.length : Int) by omega)]
    rw [List.take_of_length_le (by omega)]
    exact Ev.now _
  | succ d ih =>
    intro i hd
    have hi : i < l.length := by omega
    have hm := hr l[i] (List.getElem_mem hi)
    apply Ev.succ
    simp only [impl_sums.l0, if_pos (show (i : Int) < (l.length : Int) by omega), if_pos (show 0 ≤ (i : Int) by omega), rdl_getS hi, inc hi (by omega)]
    refine Ev.bind (isum_ev l[i] (by omega)) ?_
    simp only [if_pos (show ((l.take i).map (wsum 0)).length < 17592186044416 by simp; omega)]
    have := ih (i + 1) (by omega)
    rw [List.take_succ_eq_append_getElem hi, List.map_append] at this
    exact this
theorem sums_ev (l : List (List Int)) (hl : l.length ≤ 1048576) (hr : ∀ r ∈ l, r.length ≤ 1048576) : Ev (fun k => impl_sums.f k l) (l.map (wsum 0)) := by
  have := sums_l0 l hl hr l.length 0 (by omega)
  unfold impl_sums.f
  exact this


theorem rdl_getT {xs : List (List Int)} {i : Nat} : rd_L1 xs (i : Int) = xs.getD i [] := by
  unfold rd_L1; simp
theorem rdl_headT (xs : List (List Int)) : rd_L1 xs 0 = xs.headD [] := by
  unfold rd_L1; cases xs <;> rfl
theorem rd_getDT {xs : List Int} {i : Nat} : rd xs (i : Int) = xs.getD i 0 := by
  unfold rd; simp
def tcol (l : List (List Int)) (i k : Nat) : List Int := colOf (l.take i) k
theorem turned_l1 (l : List (List Int)) (m i : Nat) (hl : l.length ≤ 1048576) (hm : m ≤ 1048576) (hi : i < l.length) (hr : (l.getD i []).length = m) {R : List (List Int)} (hs : Ev (fun k => impl_turned.l0 k (stair (tcol l) m (i + 1) 0) l (l.length : Int) ((i : Int) + 1)) R) : ∀ (d j : Nat), d + j = m → Ev (fun k => impl_turned.l1 k (stair (tcol l) m i j) l (l.length : Int) i (l.getD i []) (m : Int) j) R := by
  intro d
  induction d with
  | zero =>
    intro j hd
    apply Ev.succ
    have e : j = m := by omega
    subst e
    simp only [impl_turned.l1, if_neg (show ¬ (j : Int) < (j : Int) by omega), inc hi (by omega), stair_end]
    exact hs
  | succ d ih =>
    intro j hd
    have hj : j < m := by omega
    have hlen : (tcol l i j).length ≤ 1048576 := by simp [tcol, colOf]; omega
    apply Ev.succ
    simp only [impl_turned.l1, if_pos (show (j : Int) < (m : Int) by omega), if_pos (show 0 ≤ (j : Int) by omega), if_pos (show (j : Int) < (l.getD i []).length by omega), stair_length, rdl_getT, stair_get (tcol l) m i j j hj, if_neg (show ¬ j < j by omega), if_pos (show (tcol l i j).length < 17592186044416 by omega), inc hj (by omega), Int.toNat_natCast, rd_getDT]
    have e : tcol l i j ++ [(l.getD i []).getD j 0] = tcol l (i + 1) j := (colOf_succ l i j hi).symm
    rw [e, stair_set (tcol l) m i j hj]
    exact ih (j + 1) (by omega)
theorem turned_l0 (l : List (List Int)) (m : Nat) (hl : l.length ≤ 1048576) (hm : m ≤ 1048576) (hr : ∀ i, i < l.length → (l.getD i []).length = m) : ∀ (d i : Nat), d + i = l.length → Ev (fun k => impl_turned.l0 k (stair (tcol l) m i 0) l (l.length : Int) i) ((List.range m).map (colOf l)) := by
  intro d
  induction d with
  | zero =>
    intro i hd
    apply Ev.succ
    simp only [impl_turned.l0, if_neg (show ¬ (i : Int) < (l.length : Int) by omega)]
    refine (Ev.now _).to ?_
    rw [stair_zero]
    refine List.map_congr_left fun k _ => ?_
    rw [tcol, List.take_of_length_le (by omega)]
  | succ d ih =>
    intro i hd
    have hi : i < l.length := by omega
    apply Ev.succ
    simp only [impl_turned.l0, if_pos (show (i : Int) < (l.length : Int) by omega), if_pos (show 0 ≤ (i : Int) by omega), rdl_getT, hr i hi]
    exact turned_l1 l m i hl hm hi (hr i hi) (ih (i + 1) (by omega)) m 0 (by omega)
theorem turned_ev (l : List (List Int)) (hn : 1 ≤ l.length) (hl : l.length ≤ 1048576) (hm : (l.headD []).length ≤ 1048576) (hr : ∀ i, i < l.length → (l.getD i []).length = (l.headD []).length) : Ev (fun k => impl_turned.f k l) ((List.range (l.headD []).length).map (colOf l)) := by
  unfold impl_turned.f
  simp only [if_pos (show 0 < (l.length : Int) by omega), rdl_headT, if_pos (show 0 ≤ ((l.headD []).length : Int) by omega), Int.toNat_natCast, if_pos (show (l.headD []).length ≤ 11728124029610 by omega)]
  have := turned_l0 l (l.headD []).length hl hm hr l.length 0 (by omega)
  rw [stair_zero] at this
  have e : (List.range (l.headD []).length).map (tcol l 0) = List.replicate (l.headD []).length [] := by
    apply List.ext_getElem
    · simp
    · intro k h1 h2
      simp [tcol, colOf]
  rw [e] at this
  exact this


theorem grow_nil (n : Int) (h0 : 0 ≤ n) (h1 : n < 17592186044416) : slices_Grow_int64_int64_nil.f n = some [] := by
  unfold slices_Grow_int64_int64_nil.f
  rw [w64 (show (-9223372036854775808) ≤ n by omega) (by omega), if_neg (by omega)]
  by_cases h : n > 0
  · rw [if_pos h, if_pos (by omega), if_pos (by simp; omega)]
    simp
  · rw [if_neg h]
theorem rdl_getC {xs : List (List Int)} {i : Nat} (h : i < xs.length) : rd_L1 xs (i : Int) = xs[i] := by
  unfold rd_L1; exact getD_get h
theorem flat_take (l : List (List Int)) (i : Nat) (h : i < l.length) : (l.take (i + 1)).flatten = (l.take i).flatten ++ l[i] := by
  rw [List.take_succ_eq_append_getElem h, List.flatten_append]
  simp
theorem flat_le (l : List (List Int)) (i : Nat) : (l.take i).flatten.length ≤ l.flatten.length := by
  have := congrArg (fun l => (List.flatten l).length) (List.take_append_drop i l)
  simp only [List.flatten_append, List.length_append] at this
  omega
theorem concat_l1 (l : List (List Int)) (hl : l.length ≤ 1048576) (hf : l.flatten.length ≤ 1000000000000) : ∀ (d i : Nat), d + i = l.length → Ev (fun k => slices_Concat_int64_int64.l1 k (l.take i).flatten l (l.length : Int) i) l.flatten := by
  intro d
  induction d with
  | zero =>
    intro i hd
    apply Ev.succ
    simp only [slices_Concat_int64_int64.l1, if_neg (show ¬ (i : Int) < (l.length : Int) by omega)]
    rw [List.take_of_length_le (by omega)]
    exact Ev.now _
  | succ d ih =>
    intro i hd
    have hi : i < l.length := by omega
    have h1 := flat_take l i hi
    have h2 := flat_le l (i + 1)
    rw [h1, List.length_append] at h2
    apply Ev.succ
    simp only [slices_Concat_int64_int64.l1, if_pos (show (i : Int) < (l.length : Int) by omega), if_pos (show 0 ≤ (i : Int) by omega), rdl_getC hi, if_pos (show (l.take i).flatten.length + l[i].length < 17592186044416 by omega), inc hi (by omega), ← h1]
    exact ih (i + 1) (by omega)
theorem concat_l0 (l : List (List Int)) (hl : l.length ≤ 1048576) (hf : l.flatten.length ≤ 1000000000000) : ∀ (d i : Nat), d + i = l.length → Ev (fun k => slices_Concat_int64_int64.l0 k l ((l.take i).flatten.length : Int) l (l.length : Int) i) l.flatten := by
  intro d
  induction d with
  | zero =>
    intro i hd
    have h2 := flat_le l i
    apply Ev.succ
    simp only [slices_Concat_int64_int64.l0, if_neg (show ¬ (i : Int) < (l.length : Int) by omega), grow_nil _ (show 0 ≤ ((l.take i).flatten.length : Int) by omega) (by omega), Option.bind_some]
    exact concat_l1 l hl hf l.length 0 (by omega)
  | succ d ih =>
    intro i hd
    have hi : i < l.length := by omega
    have h1 := flat_take l i hi
    have h2 := flat_le l (i + 1)
    rw [h1, List.length_append] at h2
    have h4 := flat_le l (i + 1)
    have h3 : wrap64 (((l.take i).flatten.length : Int) + (l[i].length : Int)) = ((l.take (i + 1)).flatten.length : Int) := by rw [w64 (by omega) (by omega), h1, List.length_append]; omega
    apply Ev.succ
    simp only [slices_Concat_int64_int64.l0, if_pos (show (i : Int) < (l.length : Int) by omega), if_pos (show 0 ≤ (i : Int) by omega), rdl_getC hi, h3, if_neg (show ¬ ((l.take (i + 1)).flatten.length : Int) < 0 by omega), inc hi (by omega)]
    exact ih (i + 1) (by omega)
theorem concat_ev (l : List (List Int)) (hl : l.length ≤ 1048576) (hf : l.flatten.length ≤ 1000000000000) : Ev (fun k => slices_Concat_int64_int64.f k l) l.flatten := by
  have := concat_l0 l hl hf l.length 0 (by omega)
  unfold slices_Concat_int64_int64.f
  exact this


theorem rdl_getV {xs : List (List Int)} {i : Nat} (h : i < xs.length) : rd_L1 xs (i : Int) = xs[i] := by
  unfold rd_L1; exact getD_get h
theorem rdl_headV (xs : List (List Int)) : rd_L1 xs 0 = xs.headD [] := by
  unfold rd_L1; cases xs <;> rfl
def idRow (n : Nat) (r : List Int) : Bool := decide (r.length = n) && r.all fun x => decide (0 ≤ x ∧ x ≤ 1000)
theorem id1_ev (r : List Int) (l : List (List Int)) (hr : r.length ≤ 1048576) : Ev (fun k => impl_IsDoubly_1.f k r l) (!idRow l.length r) := by
  unfold impl_IsDoubly_1.f idRow
  by_cases e : r.length = l.length
  · simp only [if_pos (show (r.length : Int) = l.length by omega), decide_eq_true e, Bool.true_and]
    exact Ev.bind (areWithin_ev r 0 1000 (by omega)) (Ev.now _)
  · simp only [if_neg (show ¬ (r.length : Int) = l.length by omega), decide_eq_false e, Bool.false_and, Bool.not_false]
    exact Ev.now _
theorem idC1_ev (l : List (List Int)) (hl : l.length ≤ 1048576) (hr : ∀ r ∈ l, r.length ≤ 1048576) : Ev (fun k => slices_ContainsFunc_int64_int64_impl_IsDoubly_1.f k l l) (!l.all (idRow l.length)) := by
  obtain ⟨r, hr1, hr2⟩ := find_loop l (fun x => !idRow l.length x) (fun k j => slices_IndexFunc_int64_int64_impl_IsDoubly_1.l0 k l (l.length : Int) j l)
    (by
      apply Ev.succ
      simp only [slices_IndexFunc_int64_int64_impl_IsDoubly_1.l0, if_neg (show ¬ (l.length : Int) < l.length by omega)]
      exact Ev.now _)
    (fun i hi hp => by
      apply Ev.succ
      simp only [slices_IndexFunc_int64_int64_impl_IsDoubly_1.l0, if_pos (show (i : Int) < (l.length : Int) by omega), if_pos (show 0 ≤ (i : Int) by omega), rdl_getV hi]
      refine Ev.bind (id1_ev l[i] l (hr _ (List.getElem_mem hi))) ?_
      simp only [hp, if_true]
      exact Ev.now _)
    (fun i hi hp r hr' => by
      apply Ev.succ
      simp only [slices_IndexFunc_int64_int64_impl_IsDoubly_1.l0, if_pos (show (i : Int) < (l.length : Int) by omega), if_pos (show 0 ≤ (i : Int) by omega), rdl_getV hi]
      refine Ev.bind (id1_ev l[i] l (hr _ (List.getElem_mem hi))) ?_
      simp only [hp, Bool.false_eq_true, if_false, inc hi (by omega)]
      exact hr')
  simp only [slices_ContainsFunc_int64_int64_impl_IsDoubly_1.f, slices_IndexFunc_int64_int64_impl_IsDoubly_1.f]
  refine Ev.bind hr1 ?_
  refine (Ev.now _).to ?_
  rw [hr2, any_not]
theorem idC2_ev (l : List Int) (a : Int) (hl : l.length ≤ 1048576) : Ev (fun k => slices_ContainsFunc_int64_int64_impl_IsDoubly_2.f k l a) (l.any fun x => x != a) := by
  obtain ⟨r, hr1, hr2⟩ := find_loop l (fun x => x != a) (fun k j => slices_IndexFunc_int64_int64_impl_IsDoubly_2.l0 k l (l.length : Int) j a)
    (by
      apply Ev.succ
      simp only [slices_IndexFunc_int64_int64_impl_IsDoubly_2.l0, if_neg (show ¬ (l.length : Int) < l.length by omega)]
      exact Ev.now _)
    (fun i hi hp => by
      apply Ev.succ
      simp only [slices_IndexFunc_int64_int64_impl_IsDoubly_2.l0, if_pos (show (i : Int) < (l.length : Int) by omega), if_pos (show 0 ≤ (i : Int) by omega), rd_get hi, impl_IsDoubly_2.f, Option.bind_some, hp, if_true]
      exact Ev.now _)
    (fun i hi hp r hr' => by
      apply Ev.succ
      simp only [slices_IndexFunc_int64_int64_impl_IsDoubly_2.l0, if_pos (show (i : Int) < (l.length : Int) by omega), if_pos (show 0 ≤ (i : Int) by omega), rd_get hi, impl_IsDoubly_2.f, Option.bind_some, hp, Bool.false_eq_true, if_false, inc hi (by omega)]
      exact hr')
  simp only [slices_ContainsFunc_int64_int64_impl_IsDoubly_2.f, slices_IndexFunc_int64_int64_impl_IsDoubly_2.f]
  refine Ev.bind hr1 ?_
  refine (Ev.now _).to ?_
  rw [hr2]
theorem id_all (l : List (List Int)) : l.all (idRow l.length) = (List.range l.length).all (drow l) := by
  rw [← all_range l (idRow l.length) []]
  rfl
theorem iDB_ev (l : List (List Int)) (hm : l.length ≤ 1048576) (hr : ∀ r ∈ l, r.length ≤ 1048576) : Ev (fun k => impl_IsDoubly.f k l) (DB l) := by
  unfold impl_IsDoubly.f DB
  simp only [impl_size_int64.f, within_eq, Option.bind_some]
  by_cases h : 1 ≤ (l.length : Int) ∧ (l.length : Int) ≤ 6
  · simp only [decide_eq_true h, if_true, Bool.true_and]
    refine Ev.bind (idC1_ev l hm hr) ?_
    rw [id_all]
    cases hv : (List.range l.length).all (drow l) with
    | false =>
      apply Ev.succ
      simp only [impl_IsDoubly.j0, Bool.not_false, if_true, Bool.false_and]
      exact Ev.now _
    | true =>
      have hd : l.headD [] = l.getD 0 [] := by cases l <;> rfl
      have hrow : ∀ i, i < l.length → (l.getD i []).length = l.length := by
        intro i hi
        have := List.all_eq_true.1 hv i (List.mem_range.2 hi)
        simp only [drow, Bool.and_eq_true, decide_eq_true_eq] at this
        exact this.1
      have h0 : (l.headD []).length = l.length := by rw [hd]; exact hrow 0 (by omega)
      apply Ev.succ
      simp only [impl_IsDoubly.j0, Bool.not_true, Bool.false_eq_true, if_false, Bool.true_and, if_pos (show 0 < (l.length : Int) by omega), rdl_headV]
      refine Ev.bind (isum_ev (l.headD []) (by omega)) ?_
      have e0 : wsum 0 (l.headD []) = dR l 0 := by rw [hd]; rfl
      rw [e0]
      have hgd : ∀ i, i < l.length → l.getD i [] ∈ l := fun i hi => by simp [List.getD_eq_getElem?_getD, hi]
      by_cases hp : dR l 0 > 0
      · simp only [if_pos hp]
        refine Ev.bind (sums_ev l hm hr) (Ev.bind (turned_ev l (by omega) hm (by omega) (fun i hi => by rw [h0]; exact hrow i hi)) ?_)
        rw [h0]
        refine Ev.bind (sums_ev _ (by simp; omega) (fun r hr' => ?_)) ?_
        · obtain ⟨k, _, rfl⟩ := List.mem_map.1 hr'
          simp [colOf]; omega
        · refine Ev.bind (concat_ev _ (by simp) (by simp; omega)) (Ev.bind (idC2_ev _ _ (by simp; omega)) ((Ev.now _).to ?_))
          rw [Bool.eq_iff_iff]
          simp only [Bool.not_eq_true', List.any_eq_false, bne_iff_ne, ne_eq, Decidable.not_not, Bool.and_eq_true, decide_eq_true_eq, List.all_eq_true, List.mem_range, List.flatten_cons, List.flatten_nil, List.append_nil, List.mem_append, List.mem_map]
          constructor
          · intro a
            have aR : ∀ i, i < l.length → dR l i = dR l 0 := fun i hi => a _ (.inl ⟨l.getD i [], hgd i hi, rfl⟩)
            have aC : ∀ i, i < l.length → dC l i = dR l 0 := fun i hi => a _ (.inr ⟨colOf l i, ⟨i, hi, rfl⟩, rfl⟩)
            have a0 := aC 0 (by omega)
            exact ⟨fun i hi => ⟨by rw [aR i hi, a0], by rw [aC i hi, a0]⟩, by omega⟩
          · rintro ⟨a, b⟩ x hx
            have a0 := (a 0 (by omega)).1
            rcases hx with ⟨r, hr', rfl⟩ | ⟨r, ⟨k, hk, rfl⟩, rfl⟩
            · obtain ⟨i, hi, rfl⟩ := List.getElem_of_mem hr'
              have := (a i hi).1
              rw [dR, show l.getD i [] = l[i] by simp [List.getD_eq_getElem?_getD, hi]] at this
              rw [this, a0]
            · have := (a k hk).2
              rw [dC] at this
              rw [this, a0]
      · simp only [if_neg hp]
        refine (Ev.now _).to ?_
        symm
        rw [Bool.eq_false_iff]
        intro hc
        simp only [Bool.and_eq_true, decide_eq_true_eq, List.all_eq_true, List.mem_range] at hc
        have := (hc.1 0 (by omega)).1
        omega
  · simp only [decide_eq_false h, Bool.false_eq_true, if_false, Bool.false_and]
    apply Ev.succ
    simp only [impl_IsDoubly.j0, if_true]
    exact Ev.now _


theorem rdl_s {xs : List (List Int)} {i : Nat} (h : i < xs.length) : rd_L1 xs (i : Int) = xs[i] := by
  unfold rd_L1; exact getD_get h
theorem am1_ev (r x : List Int) (hr : r.length ≤ 1048576) : Ev (fun k => impl_Mixture_addTo_1.f k r x) (decide (r = x)) := by
  unfold impl_Mixture_addTo_1.f
  exact Ev.bind (slEqual_ev r x (by omega)) (Ev.now _)
theorem amI_l0 (L : List (List Int)) (x : List Int) (hl : L.length ≤ 1048576) (hr : ∀ r ∈ L, r.length ≤ 1048576) : ∀ (d i : Nat), d + i = L.length → (∀ j, j < i → L.getD j [] ≠ x) → Ev (fun k => slices_IndexFunc_int64_int64_impl_Mixture_addTo_1.l0 k L (L.length : Int) (i : Int) x) (if fidx L x < L.length then (fidx L x : Int) else -1) := by
  intro d
  induction d with
  | zero =>
    intro i hd hj
    have e : i = L.length := by omega
    subst e
    have hf : fidx L x = L.length := fidx_eq L x L.length hj (Nat.le_refl _) (fun h => absurd h (Nat.lt_irrefl _))
    rw [if_neg (by omega)]
    apply Ev.succ
    simp only [slices_IndexFunc_int64_int64_impl_Mixture_addTo_1.l0, if_neg (show ¬ (L.length : Int) < L.length by omega)]
    exact Ev.now _
  | succ d ih =>
    intro i hd hj
    have hi : i < L.length := by omega
    have g : L.getD i [] = L[i] := by simp [List.getD_eq_getElem?_getD, hi]
    apply Ev.succ
    simp only [slices_IndexFunc_int64_int64_impl_Mixture_addTo_1.l0, if_pos (show (i : Int) < L.length by omega), if_pos (show 0 ≤ (i : Int) by omega), rdl_s hi]
    refine Ev.bind (am1_ev L[i] x (hr _ (List.getElem_mem hi))) ?_
    by_cases c : L[i] = x
    · have hf : fidx L x = i := fidx_eq L x i hj (by omega) (fun _ => by rw [g]; exact c)
      simp only [decide_eq_true c, if_true]
      rw [hf, if_pos hi]
      exact Ev.now _
    · simp only [decide_eq_false c, Bool.false_eq_true, if_false, inc hi (by omega)]
      exact ih (i + 1) (by omega) (fun j hj' => by
        by_cases e : j = i
        · subst e; rw [g]; exact c
        · exact hj j (by omega))
theorem addTo_ev (W : List Int) (L : List (List Int)) (x : List Int) (w : Int) (hl : L.length ≤ 1048575) (hr : ∀ r ∈ L, r.length ≤ 1048576) (hwl : W.length = L.length) (hw : ∀ y ∈ W, 0 ≤ y ∧ y ≤ 1000000000) (hw2 : 0 ≤ w ∧ w ≤ 1000000000) : Ev (fun k => impl_Mixture_addTo.f k W L x w) (addM W L x w) := by
  unfold impl_Mixture_addTo.f addM slices_IndexFunc_int64_int64_impl_Mixture_addTo_1.f
  refine Ev.bind (amI_l0 L x (by omega) hr L.length 0 (by omega) (fun j hj => absurd hj (Nat.not_lt_zero _))) ?_
  by_cases c : fidx L x < L.length
  · have hb := hw (W.getD (fidx L x) 0) (getD_mem (by omega))
    simp only [if_pos c, if_neg (show ¬ ((fidx L x : Nat) : Int) < 0 by omega), if_pos (show 0 ≤ ((fidx L x : Nat) : Int) by omega), if_pos (show ((fidx L x : Nat) : Int) < (W.length : Int) by omega), mrd, w64 (show (-9223372036854775808) ≤ W.getD (fidx L x) 0 + w by omega) (by omega), Int.toNat_natCast]
    exact Ev.now _
  · simp only [if_neg c, if_pos (show (-1 : Int) < 0 by omega), Option.bind_some, List.length_singleton, if_pos (show L.length + 1 < 5864062014805 by omega), if_pos (show W.length + 1 < 17592186044416 by omega)]
    exact Ev.now _
theorem own_l0 {n : Nat} (L : List (List Int)) (hl : L.length ≤ 1000) (hr : ∀ r ∈ L, r.length ≤ 1048576) : ∀ (d i : Nat), i + d = L.length → Ev (fun k => impl_ownRows.l0 k (L.take i) L (L.length : Int) (i : Int)) L
  | 0, i, hi => by
    apply Ev.succ
    simp only [impl_ownRows.l0, if_neg (show ¬ (i : Int) < (L.length : Int) by omega)]
    exact (Ev.now _).to (List.take_of_length_le (by omega))
  | d + 1, i, hi => by
    have ih := own_l0 (n := n) L hl hr d (i + 1) (by omega)
    have hi' : i < L.length := by omega
    apply Ev.succ
    simp only [impl_ownRows.l0, if_pos (show (i : Int) < (L.length : Int) by omega), if_pos (show 0 ≤ (i : Int) by omega), rdl_s hi', clone_eq L[i] (hr _ (List.getElem_mem hi')), Option.bind_some, if_pos (show (L.take i).length < 5864062014805 by rw [List.length_take]; omega), inc hi' (by omega)]
    rw [List.take_succ_eq_append_getElem hi'] at ih
    exact ih
theorem ownRows_ev (L : List (List Int)) (hl : L.length ≤ 1000) (hr : ∀ r ∈ L, r.length ≤ 1048576) : Ev (fun k => impl_ownRows.f k L) L := by
  have := own_l0 (n := 0) L hl hr L.length 0 (by omega)
  unfold impl_ownRows.f
  exact this
theorem rdl_g {xs : List (List Int)} {i : Nat} : rd_L1 xs (i : Int) = xs.getD i [] := by
  unfold rd_L1; rfl
theorem rd_pf {n : Nat} {L : List (List Int)} {l : List Int} (hl : ORD l n) {i : Nat} (hi : i < n) : rd (L.getD i []) (l.getD i 0) = en L i (pf l i) := by
  unfold rd en pf; rfl
theorem pm_l1 {n : Nat} {L : List (List Int)} {l : List Int} (hs : SQ n L) (hn : n ≤ 1000) (hl : ORD l n) (W : List Int) (ls : List (List Int)) {s : List Int × List (List Int) × Bool} (h : Ev (fun k => impl_PermutationMixture.l2 k L (lst L l n) l (n : Int) 0 W ls) s) : ∀ (d i : Nat), i + d = n → Ev (fun k => impl_PermutationMixture.l1 k L l (lst L l i) l (n : Int) (i : Int) W ls) s
  | 0, i, hi => by
    obtain rfl : i = n := by omega
    apply Ev.succ
    simp only [impl_PermutationMixture.l1, if_neg (show ¬ (i : Int) < (i : Int) by omega), hl.1]
    exact h
  | d + 1, i, hi => by
    have ih := pm_l1 hs hn hl W ls h d (i + 1) (by omega)
    have hi' : i < n := by omega
    have ho := ord_get hl hi'
    apply Ev.succ
    simp only [impl_PermutationMixture.l1, if_pos (show (i : Int) < (n : Int) by omega), if_pos (show 0 ≤ (i : Int) by omega), hl.1, hs.1, mrd, rdl_g, if_pos ho.1, hs.2 i hi', if_pos ho.2.1, rd_pf hl hi', inc hi' (by omega)]
    exact ih
theorem pm_l2 {n : Nat} {L : List (List Int)} {l : List Int} {w : Int} (hs : SQ n L) (hn : n ≤ 1000) (hl : ORD l n) (hb : ∀ i c, i < n → c < n → 0 ≤ en L i c ∧ en L i c ≤ 1000000) (hw : 0 ≤ w ∧ w ≤ 1000000) (W : List Int) (ls : List (List Int)) {s : List Int × List (List Int) × Bool} (h : Ev (fun k => (impl_Mixture_addTo.f k W ls l w).bind fun bt => impl_PermutationMixture.l0 k (addP l (-w) L n) bt.1 bt.2) s) : ∀ (d i : Nat), i + d = n → Ev (fun k => impl_PermutationMixture.l2 k (addP l (-w) L i) w l (n : Int) (i : Int) W ls) s
  | 0, i, hi => by
    obtain rfl : i = n := by omega
    apply Ev.succ
    simp only [impl_PermutationMixture.l2, if_neg (show ¬ (i : Int) < (i : Int) by omega)]
    exact h
  | d + 1, i, hi => by
    have ih := pm_l2 hs hn hl hb hw W ls h d (i + 1) (by omega)
    have hi' : i < n := by omega
    have ho := ord_get hl hi'
    have hsq := addP_sq (p := l) (w := -w) hs i (by omega)
    have he := addP_en hs (w := -w) (fun i hi => (ord_get hl hi).2.2.2) i (by omega) i (pf l i) hi' ho.2.2.2
    rw [if_neg (Nat.lt_irrefl _), Int.add_zero] at he
    have hbb := hb i (pf l i) hi' ho.2.2.2
    apply Ev.succ
    simp only [impl_PermutationMixture.l2, if_pos (show (i : Int) < (n : Int) by omega), if_pos (show 0 ≤ (i : Int) by omega), hl.1, hsq.1, mrd, rdl_g, if_pos ho.1, hsq.2 i hi', if_pos ho.2.1, rd_pf hl hi', inc hi' (by omega), he, w64 (show (-9223372036854775808) ≤ en L i (pf l i) - w by omega) (by omega), Int.toNat_natCast]
    rw [addP] at ih
    rw [show en (addP l (-w) L i) i (l.getD i 0).toNat = en L i (pf l i) from he, ← Int.sub_eq_add_neg] at ih
    exact ih
theorem addM_new (W : List Int) (L : List (List Int)) (r : List Int) (w : Int) (h : ∀ q, q < L.length → L.getD q [] ≠ r) : addM W L r w = (W ++ [w], L ++ [r]) := by
  unfold addM
  rw [if_neg (fun c => h _ c (fidx_lt L r c))]
theorem pm_l0 {n : Nat} {L0 : List (List Int)} {S : Int} (hn : 1 ≤ n ∧ n ≤ 40) (hS : S ≤ 1000000) : ∀ (k : Nat) (L : List (List Int)) (W : List Int) (ls : List (List Int)) (s : Int), PI n L0 S L W ls s → s ≤ k → Ev (fun k => impl_PermutationMixture.l0 k L W ls) ((PMF n k L W ls).1, (PMF n k L W ls).2, true) := by
  intro k
  have hsum : ∀ {L W ls s}, PI n L0 S L W ls s → 0 ≤ s ∧ s ≤ S := by
    intro L W ls s h
    have h1 := h.even.2.2.1 0 (by omega)
    have h2 := sumN_nonneg (fun c hc => h.even.2.1 0 c (by omega) hc)
    have h3 := h.sum
    have h4 : 0 ≤ W.sum := by
      have := (mem_le_sum h.pos).2
      omega
    omega
  have stop : ∀ {L W ls}, PI n L0 S L W ls 0 → Ev (fun k => impl_PermutationMixture.l0 k L W ls) (W, ls, true) := by
    intro L W ls h
    apply Ev.succ
    simp only [impl_PermutationMixture.l0, h.even.1.1, if_pos (show 0 < (n : Int) by omega)]
    have h0 : rd_L1 L 0 = L.getD 0 [] := rdl_g (i := 0)
    rw [h0]
    refine Ev.bind (isum_ev (L.getD 0 []) (by rw [h.even.1.2 0 (by omega)]; omega)) ?_
    rw [even_sum h.even (by omega) (by omega) (by omega)]
    simp only [if_neg (show ¬ (0 : Int) > 0 by omega)]
    exact Ev.now _
  induction k with
  | zero =>
    intro L W ls s h hk
    have := hsum h
    obtain rfl : s = 0 := by omega
    exact stop h
  | succ k ih =>
    intro L W ls s h hk
    have hb := hsum h
    by_cases c : s = 0
    · subst c
      rw [PMF, fit_zero h.even hn.1]
      exact stop h
    · obtain ⟨l, hf, hg, hl⟩ := fit_ex h.even (by omega)
      have hlo := good_ord hg hl
      have hnz : ∀ i, i < n → en L i (pf l i) ≠ 0 := fun i hi => (hg.2.2 i (by omega)).2.2
      obtain ⟨a, b, b2⟩ := pi_step h hn.1 hlo hnz
      rw [PMF, hf]
      have hcount := pi_count h hn.1
      have hc2 : (n - 1) * (n - 1) ≤ 1600 := by
        have := Nat.mul_le_mul (show n - 1 ≤ 40 by omega) (show n - 1 ≤ 40 by omega)
        omega
      have hadd := addTo_ev W ls l (lst L l n) (by omega) (fun r hr => by have := (h.ord r hr).1; omega) h.len (fun y hy => by
        have := h.pos y hy
        have := (mem_le_sum h.pos).1 y hy
        have := h.sum
        omega) (by omega)
      rw [addM_new _ _ _ _ (pi_fit h hlo hnz)] at hadd
      have h2 := pm_l2 (L := L) (l := l) (w := lst L l n) h.even.1 (by omega) hlo (fun i c hi hc => by have := even_bnd h.even hi hc; omega) (by omega) W ls (Ev.bind hadd (ih _ _ _ _ a (by omega))) n 0 (by omega)
      have h1 := pm_l1 h.even.1 (by omega) hlo W ls h2 n 0 (by omega)
      have ho := ord_get hlo (show 0 < n by omega)
      apply Ev.succ
      have h0 : rd_L1 L 0 = L.getD 0 [] := rdl_g (i := 0)
      simp only [impl_PermutationMixture.l0, h.even.1.1, if_pos (show 0 < (n : Int) by omega), h0]
      refine Ev.bind (isum_ev (L.getD 0 []) (by rw [h.even.1.2 0 (by omega)]; omega)) ?_
      rw [even_sum h.even (by omega) (by omega) (by omega)]
      simp only [if_pos (show s > 0 by omega), if_pos (show 0 ≤ (n : Int) by omega), Int.toNat_natCast, if_pos (show n ≤ 35184372088832 by omega)]
      refine Ev.bind (fitting_ev h.even.1 (by omega) n [] (by simp)) ?_
      have hr0 : rd l 0 = l.getD 0 0 := rfl
      simp only [hf, fitR, hl, if_pos (show 0 < (n : Int) by omega), hr0, if_pos ho.1, h.even.1.2 0 (by omega), if_pos ho.2.1]
      rw [show rd (L.getD 0 []) (l.getD 0 0) = lst L l 0 from rfl]
      exact h1


theorem min_mn (a b : Int) : min a b = mn a b := by
  unfold mn
  split <;> omega
theorem lst_one (L : List (List Int)) (l : List Int) : lst L l 1 = lst L l 0 := by
  rw [lst]
  show mn (en L 0 (pf l 0)) (en L 0 (pf l 0)) = en L 0 (pf l 0)
  unfold mn
  split <;> rfl
theorem spm_l2 {n : Nat} {L : List (List Int)} {l : List Int} (hs : SQ n L) (hn : n ≤ 1000) (hl : ORD l n) (W : List Int) (ls : List (List Int)) {s : List Int × List (List Int) × Bool} (h : Ev (fun k => spec_PermutationMixture.l3 k L l (lst L l n) 0 W ls) s) : ∀ (d i : Nat), i + d = n → Ev (fun k => spec_PermutationMixture.l2 k L l (lst L l i) (i : Int) W ls) s
  | 0, i, hi => by
    obtain rfl : i = n := by omega
    apply Ev.succ
    simp only [spec_PermutationMixture.l2, hl.1, if_neg (show ¬ (i : Int) < (i : Int) by omega)]
    exact h
  | d + 1, i, hi => by
    have ih := spm_l2 hs hn hl W ls h d (i + 1) (by omega)
    have hi' : i < n := by omega
    have ho := ord_get hl hi'
    apply Ev.succ
    simp only [spec_PermutationMixture.l2, hl.1, if_pos (show (i : Int) < (n : Int) by omega), if_pos (show 0 ≤ (i : Int) by omega), hs.1, mrd, rdl_g, if_pos ho.1, hs.2 i hi', if_pos ho.2.1, rd_pf hl hi', inc hi' (by omega), min_eq, min_mn, Option.bind_some]
    exact ih
theorem spm_l3 {n : Nat} {L : List (List Int)} {l : List Int} {w : Int} (hs : SQ n L) (hn : n ≤ 1000) (hl : ORD l n) (hb : ∀ i c, i < n → c < n → 0 ≤ en L i c ∧ en L i c ≤ 1000000) (hw : 0 ≤ w ∧ w ≤ 1000000) (W : List Int) (ls : List (List Int)) (hW : W.length ≤ 1000000) (hls : ls.length ≤ 1000000) {s : List Int × List (List Int) × Bool} (h : Ev (fun k => spec_PermutationMixture.l1 k (addP l (-w) L n) (W ++ [w]) (ls ++ [l])) s) : ∀ (d i : Nat), i + d = n → Ev (fun k => spec_PermutationMixture.l3 k (addP l (-w) L i) l w (i : Int) W ls) s
  | 0, i, hi => by
    obtain rfl : i = n := by omega
    apply Ev.succ
    simp only [spec_PermutationMixture.l3, hl.1, if_neg (show ¬ (i : Int) < (i : Int) by omega), if_pos (show ls.length < 5864062014805 by omega), if_pos (show W.length < 17592186044416 by omega)]
    exact h
  | d + 1, i, hi => by
    have ih := spm_l3 hs hn hl hb hw W ls hW hls h d (i + 1) (by omega)
    have hi' : i < n := by omega
    have ho := ord_get hl hi'
    have hsq := addP_sq (p := l) (w := -w) hs i (by omega)
    have he := addP_en hs (w := -w) (fun i hi => (ord_get hl hi).2.2.2) i (by omega) i (pf l i) hi' ho.2.2.2
    rw [if_neg (Nat.lt_irrefl _), Int.add_zero] at he
    have hbb := hb i (pf l i) hi' ho.2.2.2
    apply Ev.succ
    simp only [spec_PermutationMixture.l3, hl.1, if_pos (show (i : Int) < (n : Int) by omega), if_pos (show 0 ≤ (i : Int) by omega), hsq.1, mrd, rdl_g, if_pos ho.1, hsq.2 i hi', if_pos ho.2.1, rd_pf hl hi', inc hi' (by omega), he, w64 (show (-9223372036854775808) ≤ en L i (pf l i) - w by omega) (by omega), Int.toNat_natCast]
    rw [addP] at ih
    rw [show en (addP l (-w) L i) i (l.getD i 0).toNat = en L i (pf l i) from he, ← Int.sub_eq_add_neg] at ih
    exact ih
theorem spm_l1 {n : Nat} {L0 : List (List Int)} {S : Int} (hn : 1 ≤ n ∧ n ≤ 40) (hS : S ≤ 1000000) : ∀ (k : Nat) (L : List (List Int)) (W : List Int) (ls : List (List Int)) (s : Int), PI n L0 S L W ls s → s ≤ k → Ev (fun k => spec_PermutationMixture.l1 k L W ls) ((PMF n k L W ls).1, (PMF n k L W ls).2, true) := by
  intro k
  have hsum : ∀ {L W ls s}, PI n L0 S L W ls s → 0 ≤ s ∧ s ≤ S := by
    intro L W ls s h
    have h1 := h.even.2.2.1 0 (by omega)
    have h2 := sumN_nonneg (fun c hc => h.even.2.1 0 c (by omega) hc)
    have h3 := h.sum
    have h4 : 0 ≤ W.sum := by
      have := (mem_le_sum h.pos).2
      omega
    omega
  have stop : ∀ {L W ls}, PI n L0 S L W ls 0 → Ev (fun k => spec_PermutationMixture.l1 k L W ls) (W, ls, true) := by
    intro L W ls h
    apply Ev.succ
    simp only [spec_PermutationMixture.l1]
    refine Ev.bind (sfits_ev h.even.1 (by omega) n [] (by simp)) ?_
    simp only [fit_zero h.even hn.1, fitR, Bool.false_eq_true, if_false]
    exact Ev.now _
  induction k with
  | zero =>
    intro L W ls s h hk
    have := hsum h
    obtain rfl : s = 0 := by omega
    exact stop h
  | succ k ih =>
    intro L W ls s h hk
    have hb := hsum h
    by_cases c : s = 0
    · subst c
      rw [PMF, fit_zero h.even hn.1]
      exact stop h
    · obtain ⟨l, hf, hg, hl⟩ := fit_ex h.even (by omega)
      have hlo := good_ord hg hl
      have hnz : ∀ i, i < n → en L i (pf l i) ≠ 0 := fun i hi => (hg.2.2 i (by omega)).2.2
      obtain ⟨a, b, b2⟩ := pi_step h hn.1 hlo hnz
      rw [PMF, hf]
      have hcount := pi_count h hn.1
      have hc2 : (n - 1) * (n - 1) ≤ 1600 := by
        have := Nat.mul_le_mul (show n - 1 ≤ 40 by omega) (show n - 1 ≤ 40 by omega)
        omega
      have hlen := h.len
      have h2 := spm_l3 (L := L) (l := l) (w := lst L l n) h.even.1 (by omega) hlo (fun i c hi hc => by have := even_bnd h.even hi hc; omega) (by omega) W ls (by omega) (by omega) (ih _ _ _ _ a (by omega)) n 0 (by omega)
      have h1 := spm_l2 h.even.1 (by omega) hlo W ls h2 (n - 1) 1 (by omega)
      have ho := ord_get hlo (show 0 < n by omega)
      apply Ev.succ
      have h0 : rd_L1 L 0 = L.getD 0 [] := rdl_g (i := 0)
      have hr0 : rd l 0 = l.getD 0 0 := rfl
      simp only [spec_PermutationMixture.l1]
      refine Ev.bind (sfits_ev h.even.1 (by omega) n [] (by simp)) ?_
      simp only [hf, fitR, if_true, h.even.1.1, if_pos (show 0 < (n : Int) by omega), hl, h0, hr0, if_pos ho.1, h.even.1.2 0 (by omega), if_pos ho.2.1]
      rw [show rd (L.getD 0 []) (l.getD 0 0) = lst L l 1 from (lst_one L l).symm]
      exact h1
theorem spm_l0 (L : List (List Int)) (hl : L.length ≤ 1000) (hr : ∀ r ∈ L, r.length ≤ 1048576) {s : List Int × List (List Int) × Bool} (h : Ev (fun k => spec_PermutationMixture.l1 k L [] []) s) : ∀ (d i : Nat), i + d = L.length → Ev (fun k => spec_PermutationMixture.l0 k L (L.take i) (i : Int)) s
  | 0, i, hi => by
    apply Ev.succ
    rw [List.take_of_length_le (by omega)]
    simp only [spec_PermutationMixture.l0, if_neg (show ¬ (i : Int) < (L.length : Int) by omega)]
    exact h
  | d + 1, i, hi => by
    have ih := spm_l0 L hl hr h d (i + 1) (by omega)
    have hi' : i < L.length := by omega
    apply Ev.succ
    simp only [spec_PermutationMixture.l0, if_pos (show (i : Int) < (L.length : Int) by omega), if_pos (show 0 ≤ (i : Int) by omega), rdl_s hi', own_eq L[i] (hr _ (List.getElem_mem hi')), Option.bind_some, if_pos (show (L.take i).length < 5864062014805 by rw [List.length_take]; omega), inc hi' (by omega)]
    rw [List.take_succ_eq_append_getElem hi'] at ih
    exact ih


theorem to_step (l : List Int) (i : Nat) (hi : i < l.length) : (l.take i ++ List.replicate (l.length - i) 0).set i l[i] = l.take (i + 1) ++ List.replicate (l.length - (i + 1)) 0 := by
  rw [show l.length - i = (l.length - (i + 1)) + 1 by omega, List.replicate_succ, List.set_append, if_neg (by simp; omega), List.length_take, Nat.min_eq_left (by omega), Nat.sub_self, List.set_cons_zero, List.take_succ_eq_append_getElem hi, List.append_assoc]
  rfl
theorem to_l0 (l : List Int) (hl : l.length ≤ 35184372088832) : ∀ (d i : Nat), d + i = l.length → Ev (fun k => laws_toInt64S.l0 k l (l.take i ++ List.replicate (l.length - i) 0) i) l := by
  intro d
  induction d with
  | zero =>
    intro i hd
    apply Ev.succ
    simp only [laws_toInt64S.l0, if_neg (show ¬ (i : Int) < (l.length : Int) by omega)]
    rw [List.take_of_length_le (by omega), show l.length - i = 0 by omega]
    simpa using Ev.now l
  | succ d ih =>
    intro i hd
    have hi : i < l.length := by omega
    apply Ev.succ
    simp only [laws_toInt64S.l0, if_pos (show (i : Int) < (l.length : Int) by omega), if_pos (show 0 ≤ (i : Int) by omega), if_pos (show (i : Int) < ((l.take i ++ List.replicate (l.length - i) (0 : Int)).length : Int) by simp; omega), rd_get hi, w64 (show (-9223372036854775808) ≤ (i : Int) + 1 by omega) (by omega), Int.toNat_natCast, to_step l i hi]
    exact ih (i + 1) (by omega)
theorem toInt64S_ev (l : List Int) (hl : l.length ≤ 35184372088832) : Ev (fun k => laws_toInt64S.f k l) l := by
  simp only [laws_toInt64S.f, if_pos (show 0 ≤ (l.length : Int) by omega), Int.toNat_natCast, if_pos hl]
  have := to_l0 l hl l.length 0 (by omega)
  simpa using this


theorem toss_step (l : List (List Int)) (i : Nat) (hi : i < l.length) : (l.take i ++ List.replicate (l.length - i) []).set i l[i] = l.take (i + 1) ++ List.replicate (l.length - (i + 1)) [] := by
  rw [show l.length - i = (l.length - (i + 1)) + 1 by omega, List.replicate_succ, List.set_append, if_neg (by simp; omega), List.length_take, Nat.min_eq_left (by omega), Nat.sub_self, List.set_cons_zero, List.take_succ_eq_append_getElem hi, List.append_assoc]
  rfl
theorem rdl_get2 {xs : List (List Int)} {i : Nat} (h : i < xs.length) : rd_L1 xs (i : Int) = xs[i] := by
  unfold rd_L1; exact getD_get h
theorem toss_l0 (l : List (List Int)) (hl : l.length ≤ 1048576) (hr : ∀ r ∈ l, r.length ≤ 1048576) : ∀ (d i : Nat), d + i = l.length → Ev (fun k => laws_toInt64SS.l0 k l (l.take i ++ List.replicate (l.length - i) []) i) l := by
  intro d
  induction d with
  | zero =>
    intro i hd
    apply Ev.succ
    simp only [laws_toInt64SS.l0, if_neg (show ¬ (i : Int) < (l.length : Int) by omega)]
    rw [List.take_of_length_le (by omega), show l.length - i = 0 by omega]
    simpa using Ev.now l
  | succ d ih =>
    intro i hd
    have hi : i < l.length := by omega
    have hri := hr l[i] (List.getElem_mem hi)
    apply Ev.succ
    simp only [laws_toInt64SS.l0, if_pos (show (i : Int) < (l.length : Int) by omega), if_pos (show 0 ≤ (i : Int) by omega), if_pos (show (i : Int) < ((l.take i ++ List.replicate (l.length - i) ([] : List Int)).length : Int) by simp; omega), rdl_get2 hi, w64 (show (-9223372036854775808) ≤ (i : Int) + 1 by omega) (by omega), Int.toNat_natCast]
    refine Ev.bind (toInt64S_ev l[i] (by omega)) ?_
    rw [toss_step l i hi]
    exact ih (i + 1) (by omega)
theorem toInt64SS_ev (l : List (List Int)) (hl : l.length ≤ 1048576) (hr : ∀ r ∈ l, r.length ≤ 1048576) : Ev (fun k => laws_toInt64SS.f k l) l := by
  simp only [laws_toInt64SS.f, if_pos (show 0 ≤ (l.length : Int) by omega), Int.toNat_natCast, if_pos (show l.length ≤ 11728124029610 by omega)]
  have := toss_l0 l hl hr l.length 0 (by omega)
  simpa using this


theorem held_l0 (m : Int) (n : Nat) (hl : n ≤ 140737488355328) (h0 : 0 ≤ m) (h1 : m ≤ 4611686018427387904) : ∀ (d i : Nat), d + i = n → Ev (fun k => laws_heldInt64S.l0 k (MARKS m n) (m + (i : Int)) i) (m + (n : Int)) := by
  intro d
  induction d with
  | zero =>
    intro i hd
    apply Ev.succ
    simp only [laws_heldInt64S.l0, MARKS_length, if_neg (show ¬ (i : Int) < (n : Int) by omega)]
    rw [show i = n by omega]
    exact Ev.now _
  | succ d ih =>
    intro i hd
    have hi : i < (MARKS m n).length := by rw [MARKS_length]; omega
    apply Ev.succ
    simp only [laws_heldInt64S.l0, MARKS_length, if_pos (show (i : Int) < (n : Int) by omega), if_pos (show 0 ≤ (i : Int) by omega), rd_get hi, MARKS_get m n i hi, if_true, w64 (show (-9223372036854775808) ≤ (i : Int) + 1 by omega) (by omega), w64 (show (-9223372036854775808) ≤ m + (i : Int) + 1 by omega) (by omega)]
    have := ih (i + 1) (by omega)
    rw [Int.natCast_succ, ← Int.add_assoc] at this
    exact this
theorem heldInt64S_ev (m : Int) (n : Nat) (hl : n ≤ 140737488355328) (h0 : 0 ≤ m) (h1 : m ≤ 4611686018427387904) : Ev (fun k => laws_heldInt64S.f k (MARKS m n) m) (m + (n : Int)) := by
  have := held_l0 m n hl h0 h1 n 0 (by omega)
  simpa [laws_heldInt64S.f] using this


theorem rdl_getH {xs : List (List Int)} {i : Nat} : rd_L1 xs (i : Int) = xs.getD i [] := by
  unfold rd_L1; simp
theorem hss_l0 (l : List (List Int)) (m : Int) (hl : l.length ≤ 1048576) (hr : ∀ r ∈ l, r.length ≤ 1048576) (h0 : 0 ≤ m) (h1 : m ≤ 100000000000000) : ∀ (d i : Nat), d + i = l.length → Ev (fun k => laws_heldInt64SS.l0 k (MSS m l) (mtot_ m (l.take i)) i) (mtot_ m l) := by
  have hb : ((1048576 : Nat) : Int) * (l.length : Int) ≤ 1099511627776 := by
    have := Int.mul_le_mul_of_nonneg_left (show (l.length : Int) ≤ 1048576 by omega) (show (0 : Int) ≤ ((1048576 : Nat) : Int) by omega)
    omega
  intro d
  induction d with
  | zero =>
    intro i hd
    apply Ev.succ
    simp only [laws_heldInt64SS.l0, MSS_length, if_neg (show ¬ (i : Int) < (l.length : Int) by omega)]
    rw [List.take_of_length_le (by omega)]
    exact Ev.now _
  | succ d ih =>
    intro i hd
    have hi : i < l.length := by omega
    have hm := hr (l.getD i []) (getD_mem hi)
    have hb2 := mtot_mono l m i 1048576 hr (by omega)
    apply Ev.succ
    simp only [laws_heldInt64SS.l0, MSS_length, if_pos (show (i : Int) < (l.length : Int) by omega), if_pos (show 0 ≤ (i : Int) by omega), rdl_getH, MSS_get l m i hi, inc hi (by omega)]
    refine Ev.bind (heldInt64S_ev (mtot_ m (l.take i)) (l.getD i []).length (by omega) (by omega) (by omega)) ?_
    simp only [if_neg (show ¬ (mtot_ m (l.take i) + ((l.getD i []).length : Int)) < 0 by omega)]
    rw [← mtot_take l m i hi]
    exact ih (i + 1) (by omega)
theorem heldSS_ev (l : List (List Int)) (m : Int) (hl : l.length ≤ 1048576) (hr : ∀ r ∈ l, r.length ≤ 1048576) (h0 : 0 ≤ m) (h1 : m ≤ 100000000000000) : Ev (fun k => laws_heldInt64SS.f k (MSS m l) m) (mtot_ m l) := by
  have := hss_l0 l m hl hr h0 h1 l.length 0 (by omega)
  simpa [laws_heldInt64SS.f, mtot_] using this


theorem heldMix_ev (n : Nat) (ls : List (List Int)) (m : Int) (hw : n ≤ 1048576) (hl : ls.length ≤ 1048576) (hr : ∀ r ∈ ls, r.length ≤ 1048576) (h0 : 0 ≤ m) (h1 : m ≤ 1000000000) : Ev (fun k => laws_heldMixture.f k (MARKS m n) (MSS (m + (n : Int)) ls) m) (mtot_ (m + (n : Int)) ls) := by
  have hb := mtt_bnd ls (m + (n : Int)) 1048576 hr
  unfold laws_heldMixture.f
  refine Ev.bind (heldInt64S_ev m n (by omega) (by omega) (by omega)) ?_
  simp only [if_neg (show ¬ (m + (n : Int)) < 0 by omega)]
  refine Ev.bind (heldSS_ev ls (m + (n : Int)) hl hr (by omega) (by omega)) ?_
  simp only [if_neg (show ¬ mtot_ (m + (n : Int)) ls < 0 by omega)]
  exact Ev.now _


theorem pmx_both (L : List (List Int)) (hm : L.length ≤ 1048576) (hr : ∀ r ∈ L, r.length ≤ 1048576) : ∃ r : List Int × List (List Int) × Bool, Ev (fun k => spec_PermutationMixture.f k L) r ∧ Ev (fun k => impl_PermutationMixture.f k L) r ∧ r.1.length ≤ 1048576 ∧ r.2.1.length ≤ 1048576 ∧ ∀ x ∈ r.2.1, x.length ≤ 1048576 := by
  have hs := doubly_ev L hm hr
  have hi := iDB_ev L hm hr
  cases hD : DB L with
  | false =>
    rw [hD] at hs hi
    refine ⟨([], [], false), ?_, ?_, by simp, by simp, by simp⟩
    · unfold spec_PermutationMixture.f
      refine Ev.bind hs ?_
      simp only [Bool.false_eq_true, if_false]
      exact Ev.now _
    · unfold impl_PermutationMixture.f
      refine Ev.bind hi ?_
      simp only [Bool.false_eq_true, if_false]
      exact Ev.now _
  | true =>
    rw [hD] at hs hi
    obtain ⟨S, hn, hev, hS⟩ := even_of_db hD
    obtain ⟨L', hpi⟩ := pmf_end hn.1 S.toNat L [] [] S (pi_start hev) (by omega)
    have h1 := spm_l1 (L0 := L) (S := S) (by omega) (by omega) S.toNat L [] [] S (pi_start hev) (by omega)
    have h2 := pm_l0 (L0 := L) (S := S) (by omega) (by omega) S.toNat L [] [] S (pi_start hev) (by omega)
    generalize (PMF L.length S.toNat L [] []) = M at hpi h1 h2
    obtain ⟨W, ls⟩ := M
    dsimp only at hpi h1 h2
    have hcount := pi_count hpi hn.1
    have hc2 : (L.length - 1) * (L.length - 1) ≤ 25 := Nat.mul_le_mul (show L.length - 1 ≤ 5 by omega) (show L.length - 1 ≤ 5 by omega)
    have hlen := hpi.len
    refine ⟨(W, ls, true), ?_, ?_, by dsimp only; omega, by dsimp only; omega, fun x hx => by have := (hpi.ord x hx).1; omega⟩
    · unfold spec_PermutationMixture.f
      refine Ev.bind hs ?_
      simp only [if_true]
      exact spm_l0 L (by omega) hr h1 L.length 0 (by omega)
    · unfold impl_PermutationMixture.f
      refine Ev.bind hi ?_
      simp only [if_true]
      exact Ev.bind (ownRows_ev L (by omega) hr) h2
theorem FnExactPermutationMixture : laws_FnExactPermutationMixture.Pure := by
  intro l hl hr
  apply Ev.rounds
  unfold laws_FnExactPermutationMixture.f
  obtain ⟨q, hq, hq2⟩ := szSS_ev l 1048576 hl (fun r h => (hr r h).1) (by omega) (by omega)
  refine Ev.bind hq ?_
  rcases hq2 with rfl | ⟨q0, q1, q2, q3⟩
  · simp only [if_pos (show (-1 : Int) < 0 by omega)]
    exact Ev.now _
  simp only [if_neg (show ¬ q < 0 by omega)]
  have ht := toInt64SS_ev l q2 q3
  obtain ⟨⟨W, L, b⟩, hs, hi, n1, n2, n3⟩ := pmx_both l q2 q3
  simp only at n1 n2 n3
  have he := eqMixture_ev W L n1 n2 n3
  have hb := mtt_bnd L (1 + (W.length : Int)) 1048576 n3
  have hb1 := mtt_bnd l 1 1048576 q3
  have hh := heldMix_ev W.length L 1 n1 n2 n3 (by omega) (by omega)
  refine Ev.bind ht (Ev.bind hs (Ev.bind ht (Ev.bind hi (Ev.bind he ?_))))
  simp only [if_true]
  refine Ev.bind ht (Ev.bind (eqInt64SS_ev l l (by omega) (fun r h => by have := q3 r h; omega)) ?_)
  simp only [decide_true, if_true]
  refine Ev.bind (markSSk_ev l 1 q2 q3 (by omega) (by omega)) ?_
  simp only [if_neg (show ¬ mtot_ 1 l < 0 by omega)]
  refine Ev.bind he ?_
  simp only [if_true]
  refine Ev.bind (markMixk_ev W L 1 n1 n2 n3 (by omega) (by omega)) (Ev.bind hh ?_)
  simp only [if_neg (show ¬ mtot_ (1 + (W.length : Int)) L < 0 by omega), if_true]
  refine Ev.bind ht (Ev.bind hi (Ev.bind he ?_))
  simp only [if_true]
  refine Ev.bind hh ?_
  simp only [if_neg (show ¬ mtot_ (1 + (W.length : Int)) L < 0 by omega), if_true]
  exact Ev.now _


end Go.Proofs.Ytlhpejabdmejbaa.Pure
