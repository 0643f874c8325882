/- Proved: the pure half of the law FnMeans: the printed functions answer true, for every input. No condition. -/
import Derived.Test.YtlhpejabdmejbaaPFnMeansx15
import Derived.Test.YtlhpejabdmejbaaBase
import Derived.Test.YtlhpejabdmejbaaLists
import Derived.Test.YtlhpejabdmejbaaPair
import Derived.Test.YtlhpejabdmejbaaPsum
import Derived.Test.YtlhpejabdmejbaaMix
import Derived.Test.YtlhpejabdmejbaaGcd
import Derived.Test.YtlhpejabdmejbaaSorts
import Derived.Test.YtlhpejabdmejbaaSource
import Derived.Test.YtlhpejabdmejbaaKeyed
namespace Go.Proofs.Ytlhpejabdmejbaa.Pure
open Go.RowKit Go.Proofs.Ytlhpejabdmejbaa.PFnMeans Go.Proofs.YtlhpejabdmejbaaW.PrintWords Go.Proofs.YtlhpejabdmejbaaW.PrintLast Go.Proofs.YtlhpejabdmejbaaW.PrintMore Go.Proofs.Ytlhpejabdmejbaa.Base
set_option linter.unusedVariables false
set_option linter.unusedSimpArgs false

/-! spec.l00In -/
theorem in_eq (a b c : Int) : spec_l00In.f a b c = some (decide (b ≤ a ∧ a ≤ c)) := by
  unfold spec_l00In.f
  by_cases h : b ≤ a
  · rw [if_pos (show a ≥ b from h)]; simp [h]
  · rw [if_neg (show ¬ a ≥ b from h)]; simp [h]

/-! spec.l00Same -/
theorem same_l0 (a b : List Int) (hl : a.length = b.length) (hm : a.length ≤ 9223372036854775806) : ∀ (d i : Nat), d + i = a.length → Ev (fun k => spec_l00Same.l0 k a b i) (decide (a.drop i = b.drop i)) := by
  intro d
  induction d with
  | zero =>
    intro i hd
    apply Ev.succ
    simp only [spec_l00Same.l0, if_neg (show ¬ (i : Int) < (a.length : Int) by omega)]
    rw [List.drop_of_length_le (by omega), List.drop_of_length_le (by omega)]
    exact Ev.now _
  | succ d ih =>
    intro i hd
    have hi : i < a.length := by omega
    have hi' : i < b.length := by omega
    apply Ev.succ
    simp only [spec_l00Same.l0, if_pos (show (i : Int) < (a.length : Int) by omega), if_pos (show 0 ≤ (i : Int) by omega), if_pos (show (i : Int) < (b.length : Int) by omega), rd_get hi, rd_get hi', w64 (show (-9223372036854775808) ≤ (i : Int) + 1 by omega) (by omega)]
    rw [List.drop_eq_getElem_cons hi, List.drop_eq_getElem_cons hi']
    by_cases h : a[i] = b[i]
    · simp only [if_pos h]
      exact (ih (i + 1) (by omega)).to (by simp only [List.cons.injEq, h, true_and])
    · simp only [if_neg h]
      exact (Ev.now _).to (by simp only [List.cons.injEq, h, false_and, decide_false])
theorem same_ev (a b : List Int) (hm : a.length ≤ 9223372036854775806) : Ev (fun k => spec_l00Same.f k a b) (decide (a = b)) := by
  unfold spec_l00Same.f
  by_cases h : a.length = b.length
  · simp only [if_pos (show (a.length : Int) = (b.length : Int) by omega)]
    simpa using same_l0 a b h hm a.length 0 (by omega)
  · simp only [if_neg (show ¬ (a.length : Int) = (b.length : Int) by omega)]
    exact (Ev.now _).to (by symm; simp; intro e; exact h (by rw [e]))

/-! spec.l06Is -/
/-- A valid mixture. -/
theorem rdl_get6 {xs : List (List Int)} {i : Nat} (h : i < xs.length) : rd_L1 xs (i : Int) = xs.getD i [] := by
  unfold rd_L1; simp
theorem rdl_head6 (xs : List (List Int)) : rd_L1 xs 0 = xs.headD [] := by
  unfold rd_L1; cases xs <;> rfl
theorem rd_getD {xs : List Int} {i : Nat} : rd xs (i : Int) = xs.getD i 0 := by
  unfold rd; simp
theorem vm_l2 (ws : List Int) (ls : List (List Int)) (t : Int) (i : Nat) (hi : i < ls.length) (hl : ls.length ≤ 64) (hr : ∀ r ∈ ls, r.length ≤ 1048576) {s : Bool} (hs : Ev (fun k => spec_l06Is.l0 k t (wrap64 ((i : Int) + 1)) ws ls) s) : Ev (fun k => spec_l06Is.l2 k t i 0 ws ls) (((List.range i).all fun j => !decide (ls.getD j [] = ls.getD i [])) && s) := by
  refine all_step i (fun j => !decide (ls.getD j [] = ls.getD i [])) (fun k j => spec_l06Is.l2 k t i j ws ls) ?_ ?_
  · apply Ev.succ
    simp only [spec_l06Is.l2, if_neg (show ¬ (i : Int) < i by omega)]
    exact hs
  · intro j hj q hq
    have hj' : j < ls.length := by omega
    apply Ev.succ
    simp only [spec_l06Is.l2, if_pos (show (j : Int) < i by omega), if_pos (show 0 ≤ (j : Int) by omega), if_pos (show (j : Int) < ls.length by omega), if_pos (show 0 ≤ (i : Int) by omega), if_pos (show (i : Int) < ls.length by omega), rdl_get6 hj', rdl_get6 hi]
    refine Ev.bind (same_ev (ls.getD j []) (ls.getD i []) ?_) ?_
    · have := hr (ls.getD j []) (by simp [List.getD_eq_getElem?_getD, hj'])
      omega
    · by_cases e : ls.getD j [] = ls.getD i []
      · simp only [decide_eq_true e, if_true, Bool.not_true, Bool.false_and]
        exact Ev.now _
      · simp only [decide_eq_false e, Bool.false_eq_true, if_false, Bool.not_false, Bool.true_and, inc hj (by omega)]
        exact hq
theorem vm_l1 (ws : List Int) (ls : List (List Int)) (t : Int) (i : Nat) (hi : i < ls.length) (hl : ls.length ≤ 64) (hr : ∀ r ∈ ls, r.length ≤ 1048576) {s : Bool} (hs : Ev (fun k => spec_l06Is.l2 k t i 0 ws ls) s) : Ev (fun k => spec_l06Is.l1 k t i 0 ws ls) (((ls.getD i []).all fun x => decide (-1000000 ≤ x ∧ x ≤ 1000000)) && s) := by
  have hm := hr (ls.getD i []) (by simp [List.getD_eq_getElem?_getD, hi])
  rw [← all_range (ls.getD i []) _ 0]
  refine all_step (ls.getD i []).length (fun j => decide (-1000000 ≤ (ls.getD i []).getD j 0 ∧ (ls.getD i []).getD j 0 ≤ 1000000)) (fun k j => spec_l06Is.l1 k t i j ws ls) ?_ ?_
  · apply Ev.succ
    simp only [spec_l06Is.l1, if_pos (show 0 ≤ (i : Int) by omega), if_pos (show (i : Int) < ls.length by omega), rdl_get6 hi, if_neg (show ¬ ((ls.getD i []).length : Int) < (ls.getD i []).length by omega)]
    exact hs
  · intro j hj q hq
    apply Ev.succ
    simp only [spec_l06Is.l1, if_pos (show 0 ≤ (i : Int) by omega), if_pos (show (i : Int) < ls.length by omega), rdl_get6 hi, if_pos (show (j : Int) < (ls.getD i []).length by omega), if_pos (show 0 ≤ (j : Int) by omega), rd_getD, in_eq, Option.bind_some]
    by_cases e : -1000000 ≤ (ls.getD i []).getD j 0 ∧ (ls.getD i []).getD j 0 ≤ 1000000
    · simp only [decide_eq_true e, if_true, Bool.true_and, inc hj (by omega)]
      exact hq
    · simp only [decide_eq_false e, Bool.false_eq_true, if_false, Bool.false_and]
      exact Ev.now _
theorem take_wsum (ws : List Int) (i : Nat) (h : i < ws.length) : wrap64 (wsum 0 (ws.take i) + ws.getD i 0) = wsum 0 (ws.take (i + 1)) := by
  have e : ws.getD i 0 = ws[i] := by simp [List.getD_eq_getElem?_getD, h]
  rw [List.take_succ_eq_append_getElem h, e]
  unfold wsum
  rw [List.foldl_append]
  rfl
theorem vm_l0 (ws : List Int) (ls : List (List Int)) (hl : ls.length ≤ 64) (hw : ws.length = ls.length) (hr : ∀ r ∈ ls, r.length ≤ 1048576) : Ev (fun k => spec_l06Is.l0 k 0 0 ws ls) ((List.range ls.length).all (fun i => decide (1 ≤ ws.getD i 0 ∧ ws.getD i 0 ≤ 1000000) && mxRow ls i) && decide (wsum 0 ws ≤ 1000000)) := by
  have := all_step ls.length (fun i => decide (1 ≤ ws.getD i 0 ∧ ws.getD i 0 ≤ 1000000) && mxRow ls i) (fun k i => spec_l06Is.l0 k (wsum 0 (ws.take i)) i ws ls) (r := decide (wsum 0 ws ≤ 1000000)) ?_ ?_
  · exact this
  · apply Ev.succ
    simp only [spec_l06Is.l0, if_neg (show ¬ (ls.length : Int) < ls.length by omega)]
    rw [List.take_of_length_le (by omega)]
    exact Ev.now _
  · intro i hi s hs
    have hi' : i < ws.length := by omega
    apply Ev.succ
    simp only [spec_l06Is.l0, if_pos (show (i : Int) < ls.length by omega), if_pos (show 0 ≤ (i : Int) by omega), if_pos (show (i : Int) < ws.length by omega), rd_getD, in_eq, Option.bind_some, if_pos (show 0 < (ls.length : Int) by omega), rdl_get6 hi, rdl_head6]
    by_cases e : 1 ≤ ws.getD i 0 ∧ ws.getD i 0 ≤ 1000000
    · simp only [decide_eq_true e, if_true, Bool.true_and]
      apply Ev.succ
      by_cases e2 : (ls.getD i []).length = (ls.headD []).length
      · have hne : (((ls.getD i []).length : Int) != ((ls.headD []).length : Int)) = false := by simp only [bne_eq_false_iff_eq]; omega
        simp only [spec_l06Is.j2, hne, Bool.false_eq_true, if_false, if_pos (show 0 ≤ (i : Int) by omega), if_pos (show (i : Int) < ws.length by omega), rd_getD, take_wsum ws i hi']
        refine (vm_l1 ws ls _ i hi hl hr (vm_l2 ws ls _ i hi hl hr (s := s) ?_)).to ?_
        · rw [inc hi (by omega)]
          exact hs
        · simp only [mxRow, decide_eq_true e2, Bool.true_and, Bool.and_assoc]
      · have hne : (((ls.getD i []).length : Int) != ((ls.headD []).length : Int)) = true := by simp only [bne_iff_ne, ne_eq]; omega
        simp only [spec_l06Is.j2, hne, if_true]
        exact (Ev.now _).to (by simp only [mxRow, decide_eq_false e2, Bool.false_and])
    · simp only [decide_eq_false e, Bool.false_eq_true, if_false, Bool.false_and]
      apply Ev.succ
      simp only [spec_l06Is.j2, if_true]
      exact Ev.now _
theorem all_and {n : Nat} (p q : Nat → Bool) : (List.range n).all (fun i => p i && q i) = ((List.range n).all p && (List.range n).all q) := by
  induction n with
  | zero => rfl
  | succ n ih =>
    rw [List.range_succ, List.all_append, List.all_append, List.all_append, ih]
    simp only [List.all_cons, List.all_nil, Bool.and_true]
    cases p n <;> cases q n <;> simp
theorem l06Is_ev (ws : List Int) (ls : List (List Int)) (hw : ws.length ≤ 1048576) (hl : ls.length ≤ 1048576) (hr : ∀ r ∈ ls, r.length ≤ 1048576) : Ev (fun k => spec_l06Is.f k ws ls) (VM ws ls) := by
  unfold spec_l06Is.f VM
  simp only [in_eq, Option.bind_some, rdl_head6]
  by_cases h1 : 1 ≤ (ls.length : Int) ∧ (ls.length : Int) ≤ 64
  · by_cases h2 : ws.length = ls.length
    · simp only [decide_eq_true h1, decide_eq_true h2, if_true, if_pos (show (ws.length : Int) = ls.length by omega), if_pos (show 0 < (ls.length : Int) by omega), Bool.true_and]
      apply Ev.succ
      by_cases h3 : (ls.headD []).length ≤ 40
      · simp only [spec_l06Is.j0, decide_eq_false (show ¬ ((ls.headD []).length : Int) > 40 by omega), decide_eq_true h3, Bool.false_eq_true, if_false, Bool.true_and]
        refine (vm_l0 ws ls (by omega) h2 hr).to ?_
        rw [all_and, Bool.and_assoc, mxW, ← all_range ws _ 0, h2]
      · simp only [spec_l06Is.j0, decide_eq_true (show ((ls.headD []).length : Int) > 40 by omega), decide_eq_false h3, if_true, Bool.false_and]
        exact Ev.now _
    · simp only [decide_eq_true h1, decide_eq_false h2, if_true, if_neg (show ¬ (ws.length : Int) = ls.length by omega), Bool.false_and, Bool.and_false]
      apply Ev.succ
      simp only [spec_l06Is.j0, if_true]
      exact Ev.now _
  · simp only [decide_eq_false h1, Bool.false_eq_true, if_false, Bool.false_and]
    apply Ev.succ
    simp only [spec_l06Is.j0, if_true]
    exact Ev.now _
theorem vm_facts {ws : List Int} {ls : List (List Int)} (h : VM ws ls = true) : 1 ≤ ls.length ∧ ls.length ≤ 64 ∧ ws.length = ls.length ∧ (ls.headD []).length ≤ 40 ∧ (∀ w ∈ ws, 1 ≤ w ∧ w ≤ 1000000) ∧ (∀ i, i < ls.length → (ls.getD i []).length = (ls.headD []).length ∧ ∀ x ∈ ls.getD i [], -1000000 ≤ x ∧ x ≤ 1000000) ∧ wsum 0 ws ≤ 1000000 := by
  simp only [VM, mxW, mxRow, Bool.and_eq_true, decide_eq_true_eq, List.all_eq_true, List.mem_range] at h
  obtain ⟨h1, h2, h3, h4, h5, h6⟩ := h
  exact ⟨by omega, by omega, h2, h3, h4, fun i hi => ⟨(h5 i hi).1, (h5 i hi).2.1⟩, h6⟩

/-! spec.l01Is -/
theorem l01Is_ev (den : Int) (vs : List Int) (hv : vs.length ≤ 9223372036854775806) : Ev (fun k => spec_l01Is.f k den vs) (VV den vs) := by
  unfold spec_l01Is.f
  have h := all_step vs.length (fun i => decide (-1000000 ≤ vs.getD i 0 ∧ vs.getD i 0 ≤ 1000000)) (fun k i => spec_l01Is.l0 k i den vs) (r := decide (1 ≤ den ∧ den ≤ 1000) && decide (vs.length ≤ 40)) ?_ ?_
  · refine h.to ?_
    rw [all_range vs (fun x => decide (-1000000 ≤ x ∧ x ≤ 1000000)) 0]
    unfold VV
    cases vs.all fun x => decide (-1000000 ≤ x ∧ x ≤ 1000000) <;> simp
  · apply Ev.succ
    simp only [spec_l01Is.l0, if_neg (show ¬ (vs.length : Int) < vs.length by omega), in_eq, Option.bind_some]
    by_cases c : 1 ≤ den ∧ den ≤ 1000
    · simp only [decide_eq_true c, if_true, Bool.true_and]
      refine (Ev.now _).to ?_
      exact decide_eq_decide.2 (by omega)
    · simp only [decide_eq_false c, Bool.false_eq_true, if_false, Bool.false_and]
      exact Ev.now _
  · intro i hi s hs
    apply Ev.succ
    simp only [spec_l01Is.l0, if_pos (show (i : Int) < vs.length by omega), if_pos (show 0 ≤ (i : Int) by omega), mrd, in_eq, Option.bind_some]
    by_cases c : -1000000 ≤ vs.getD i 0 ∧ vs.getD i 0 ≤ 1000000
    · simp only [decide_eq_true c, if_true, Bool.true_and, inc hi (by omega)]
      exact hs
    · simp only [decide_eq_false c, Bool.false_eq_true, if_false, Bool.false_and]
      exact Ev.now _

/-! spec.l06Sums -/
theorem ms_dl {xs : List (List Int)} {i : Nat} : rd_L1 xs (i : Int) = xs.getD i [] := by
  unfold rd_L1; simp
theorem ms_d0 (xs : List (List Int)) : rd_L1 xs 0 = xs.headD [] := by
  unfold rd_L1; cases xs <;> rfl
theorem ms_l1 (W : List Int) (L : List (List Int)) (h : MB W L) (i : Nat) (n : Nat) (hi : i < L.length) (hn : (L.getD i []).length = n) (hs : n ≤ 1048576) {R : List Int} (hR : Ev (fun k => spec_l06Sums.l0 k (stair (mcol W L) n (i + 1) 0) (wrap64 ((i : Int) + 1)) W L) R) : ∀ (d j : Nat), d + j = n → Ev (fun k => spec_l06Sums.l1 k (stair (mcol W L) n i j) i j W L) R := by
  intro d
  induction d with
  | zero =>
    intro j hd
    apply Ev.succ
    simp only [spec_l06Sums.l1, stair_length, if_neg (show ¬ (j : Int) < (n : Int) by omega)]
    rw [show j = n by omega, stair_end]
    exact hR
  | succ d ih =>
    intro j hd
    have hw := h.1
    apply Ev.succ
    simp only [spec_l06Sums.l1, stair_length, if_pos (show (j : Int) < (n : Int) by omega), if_pos (show 0 ≤ (j : Int) by omega), if_pos (show 0 ≤ (i : Int) by omega), if_pos (show (i : Int) < (W.length : Int) by omega), if_pos (show (i : Int) < (L.length : Int) by omega), ms_dl, hn, mrd, Int.toNat_natCast, inc (show j < n by omega) (by omega)]
    rw [stair_get _ _ _ _ _ (show j < n by omega), if_neg (show ¬ j < j by omega), mb_wrap h i j hi, stair_set _ _ _ _ (show j < n by omega)]
    exact ih (j + 1) (by omega)
theorem ms_l0 (W : List Int) (L : List (List Int)) (h : MB W L) (n : Nat) (hl : L.length ≤ 1048576) (hn : ∀ i, i < L.length → (L.getD i []).length = n) (hs : n ≤ 1048576) : ∀ (d i : Nat), d + i = L.length → Ev (fun k => spec_l06Sums.l0 k (stair (mcol W L) n i 0) i W L) (stair (mcol W L) n L.length 0) := by
  intro d
  induction d with
  | zero =>
    intro i hd
    apply Ev.succ
    simp only [spec_l06Sums.l0, if_neg (show ¬ (i : Int) < (L.length : Int) by omega)]
    rw [show i = L.length by omega]
    exact Ev.now _
  | succ d ih =>
    intro i hd
    apply Ev.succ
    simp only [spec_l06Sums.l0, if_pos (show (i : Int) < (L.length : Int) by omega)]
    refine ms_l1 W L h i n (by omega) (hn i (by omega)) hs ?_ n 0 (by omega)
    rw [inc (show i < L.length by omega) (by omega)]
    exact ih (i + 1) (by omega)
theorem l06Sums_ev (W : List Int) (L : List (List Int)) (h : MB W L) (h0 : 0 < L.length) (hl : L.length ≤ 1048576) (hn : ∀ i, i < L.length → (L.getD i []).length = (L.headD []).length) (hs : (L.headD []).length ≤ 1048576) : Ev (fun k => spec_l06Sums.f k W L) (mtot W L) := by
  simp only [spec_l06Sums.f, if_pos (show 0 < (L.length : Int) by omega), ms_d0, if_pos (show 0 ≤ ((L.headD []).length : Int) by omega), Int.toNat_natCast, if_pos (show (L.headD []).length ≤ 35184372088832 by omega)]
  rw [mcol_first W L]
  exact (ms_l0 W L h (L.headD []).length hl hn hs L.length 0 (by omega)).to (mcol_last W L)

/-! spec.l01Sum -/
theorem ssum_l0 (l : List Int) (hl : l.length ≤ 9223372036854775806) : ∀ (d i : Nat) (acc : Int), d + i = l.length → Ev (fun k => spec_l01Sum.l0 k l acc i) (wsum acc (l.drop i)) := by
  intro d
  induction d with
  | zero =>
    intro i acc hd
    apply Ev.succ
    simp only [spec_l01Sum.l0, if_neg (show ¬ (i : Int) < (l.length : Int) by omega)]
    rw [List.drop_of_length_le (by omega)]
    exact Ev.now _
  | succ d ih =>
    intro i acc hd
    have hi : i < l.length := by omega
    apply Ev.succ
    simp only [spec_l01Sum.l0, if_pos (show (i : Int) < (l.length : Int) by omega), if_pos (show 0 ≤ (i : Int) by omega), rd_get hi, w64 (show (-9223372036854775808) ≤ (i : Int) + 1 by omega) (by omega)]
    rw [List.drop_eq_getElem_cons hi]
    exact ih (i + 1) _ (by omega)
theorem ssum_ev (l : List Int) (hl : l.length ≤ 9223372036854775806) : Ev (fun k => spec_l01Sum.f k l) (wsum 0 l) := by
  have := ssum_l0 l hl l.length 0 0 (by omega)
  simpa [spec_l01Sum.f] using this

/-! spec.l00Max -/
theorem max_eq (a b : Int) : spec_l00Max.f a b = some (max a b) := by
  unfold spec_l00Max.f
  by_cases h : a > b
  · rw [if_pos h, Int.max_eq_left (by omega)]
  · rw [if_neg h, Int.max_eq_right (by omega)]

/-! spec.l06Gcd -/
theorem gcd6_l0 : ∀ (n : Nat) (x g : Int), x.natAbs ≤ n → 0 ≤ x → 0 ≤ g → Ev (fun k => spec_l06Gcd.l0 k x g) (Int.gcd g x : Int) := by
  intro n
  induction n with
  | zero =>
    intro x g hn hx hg
    have e : x = 0 := by omega
    subst e
    apply Ev.succ
    simp only [spec_l06Gcd.l0, if_neg (show ¬ (0 : Int) > 0 by omega)]
    refine (Ev.now _).to ?_
    rw [Int.gcd_zero_right]
    omega
  | succ n ih =>
    intro x g hn hx hg
    by_cases hz : x = 0
    · subst hz
      apply Ev.succ
      simp only [spec_l06Gcd.l0, if_neg (show ¬ (0 : Int) > 0 by omega)]
      refine (Ev.now _).to ?_
      rw [Int.gcd_zero_right]
      omega
    · apply Ev.succ
      simp only [spec_l06Gcd.l0, if_pos (show x > 0 by omega), if_neg hz]
      have := tmod_abs_lt (a := g) hz
      exact (ih (g.tmod x) x (by omega) (Int.tmod_nonneg _ hg) hx).to (by rw [gcd_step])
theorem l06Gcd_ev (x g : Int) (hx : -9223372036854775807 ≤ x) (hx1 : x ≤ 9223372036854775807) (hg : 0 ≤ g) : Ev (fun k => spec_l06Gcd.f k x g) (Int.gcd g x : Int) := by
  unfold spec_l06Gcd.f
  simp only [max_eq, w64 (show (-9223372036854775808) ≤ -x by omega) (by omega), Option.bind_some]
  refine (gcd6_l0 (max x (-x)).natAbs (max x (-x)) g (Nat.le_refl _) (by omega) hg).to ?_
  unfold Int.gcd
  rw [show (max x (-x)).natAbs = x.natAbs by omega]

/-! impl.within -/
theorem within_eq (a b c : Int) : impl_within.f a b c = some (decide (b ≤ a ∧ a ≤ c)) := by
  unfold impl_within.f
  by_cases h : b ≤ a
  · rw [if_pos h]; simp [h]
  · rw [if_neg h]; simp [h]

/-! impl.sum -/
theorem isum_l0 (l : List Int) (hl : l.length ≤ 9223372036854775806) : ∀ (d i : Nat) (acc : Int), d + i = l.length → Ev (fun k => impl_sum.l0 k acc l (l.length : Int) i) (wsum acc (l.drop i)) := by
  intro d
  induction d with
  | zero =>
    intro i acc hd
    apply Ev.succ
    simp only [impl_sum.l0, if_neg (show ¬ (i : Int) < (l.length : Int) by omega)]
    rw [List.drop_of_length_le (by omega)]
    exact Ev.now _
  | succ d ih =>
    intro i acc hd
    have hi : i < l.length := by omega
    apply Ev.succ
    simp only [impl_sum.l0, if_pos (show (i : Int) < (l.length : Int) by omega), if_pos (show 0 ≤ (i : Int) by omega), rd_get hi, w64 (show (-9223372036854775808) ≤ (i : Int) + 1 by omega) (by omega)]
    rw [List.drop_eq_getElem_cons hi]
    exact ih (i + 1) _ (by omega)
theorem isum_ev (l : List Int) (hl : l.length ≤ 9223372036854775806) : Ev (fun k => impl_sum.f k l) (wsum 0 l) := by
  have := isum_l0 l hl l.length 0 0 (by omega)
  simpa [impl_sum.f] using this

/-! impl.areWithin -/
theorem aw_l0 (l : List Int) (a b : Int) (hl : l.length ≤ 9223372036854775806) : ∀ (d i : Nat), d + i = l.length → ∃ r : Int, Ev (fun k => slices_IndexFunc_int64_int64_impl_areWithin_1.l0 k l (l.length : Int) i a b) r ∧ (decide (r ≥ 0) = !(l.drop i).all fun n => decide (a ≤ n ∧ n ≤ b)) := by
  intro d
  induction d with
  | zero =>
    intro i hd
    refine ⟨-1, ?_, ?_⟩
    · apply Ev.succ
      simp only [slices_IndexFunc_int64_int64_impl_areWithin_1.l0, if_neg (show ¬ (i : Int) < (l.length : Int) by omega)]
      exact Ev.now _
    · rw [List.drop_of_length_le (by omega)]; rfl
  | succ d ih =>
    intro i hd
    have hi : i < l.length := by omega
    obtain ⟨r, hr, he⟩ := ih (i + 1) (by omega)
    by_cases h : a ≤ l[i] ∧ l[i] ≤ b
    · refine ⟨r, ?_, ?_⟩
      · apply Ev.succ
        simp only [slices_IndexFunc_int64_int64_impl_areWithin_1.l0, if_pos (show (i : Int) < (l.length : Int) by omega), if_pos (show 0 ≤ (i : Int) by omega), rd_get hi, impl_areWithin_1.f, within_eq, decide_eq_true h, Option.bind_some, w64 (show (-9223372036854775808) ≤ (i : Int) + 1 by omega) (by omega)]
        simpa using hr
      · rw [he, List.drop_eq_getElem_cons hi, List.all_cons, decide_eq_true h, Bool.true_and]
    · refine ⟨i, ?_, ?_⟩
      · apply Ev.succ
        simp only [slices_IndexFunc_int64_int64_impl_areWithin_1.l0, if_pos (show (i : Int) < (l.length : Int) by omega), if_pos (show 0 ≤ (i : Int) by omega), rd_get hi, impl_areWithin_1.f, within_eq, decide_eq_false h, Option.bind_some]
        simpa using Ev.now _
      · rw [List.drop_eq_getElem_cons hi, List.all_cons, decide_eq_false h, Bool.false_and]; simp
theorem areWithin_ev (l : List Int) (a b : Int) (hl : l.length ≤ 9223372036854775806) : Ev (fun k => impl_areWithin.f k l a b) (l.all fun n => decide (a ≤ n ∧ n ≤ b)) := by
  obtain ⟨r, hr, he⟩ := aw_l0 l a b hl l.length 0 (by omega)
  unfold impl_areWithin.f
  simp only [slices_ContainsFunc_int64_int64_impl_areWithin_1.f, slices_IndexFunc_int64_int64_impl_areWithin_1.f]
  refine Ev.bind (Ev.bind hr (Ev.now _)) ?_
  refine (Ev.now _).to ?_
  rw [he, List.drop_zero, Bool.not_not]

/-! slices.Equal   int64,int64  -/
theorem sleq_l0 (a b : List Int) (hl : a.length = b.length) (hm : a.length ≤ 9223372036854775806) : ∀ (d i : Nat), d + i = a.length → Ev (fun k => slices_Equal_int64_int64.l0 k a b (a.length : Int) i) (decide (a.drop i = b.drop i)) := by
  intro d
  induction d with
  | zero =>
    intro i hd
    apply Ev.succ
    simp only [slices_Equal_int64_int64.l0, if_neg (show ¬ (i : Int) < (a.length : Int) by omega)]
    rw [List.drop_of_length_le (by omega), List.drop_of_length_le (by omega)]
    exact Ev.now _
  | succ d ih =>
    intro i hd
    have hi : i < a.length := by omega
    have hi' : i < b.length := by omega
    apply Ev.succ
    simp only [slices_Equal_int64_int64.l0, if_pos (show (i : Int) < (a.length : Int) by omega), if_pos (show 0 ≤ (i : Int) by omega), if_pos (show (i : Int) < (b.length : Int) by omega), rd_get hi, rd_get hi', w64 (show (-9223372036854775808) ≤ (i : Int) + 1 by omega) (by omega)]
    rw [List.drop_eq_getElem_cons hi, List.drop_eq_getElem_cons hi']
    by_cases h : a[i] = b[i]
    · simp only [if_pos h]
      exact (ih (i + 1) (by omega)).to (by simp only [List.cons.injEq, h, true_and])
    · simp only [if_neg h]
      exact (Ev.now _).to (by simp only [List.cons.injEq, h, false_and, decide_false])
theorem slEqual_ev (a b : List Int) (hm : a.length ≤ 9223372036854775806) : Ev (fun k => slices_Equal_int64_int64.f k a b) (decide (a = b)) := by
  unfold slices_Equal_int64_int64.f
  by_cases h : a.length = b.length
  · simp only [if_pos (show (a.length : Int) = (b.length : Int) by omega)]
    simpa using sleq_l0 a b h hm a.length 0 (by omega)
  · simp only [if_neg (show ¬ (a.length : Int) = (b.length : Int) by omega)]
    exact (Ev.now _).to (by symm; simp; intro e; exact h (by rw [e]))

/-! impl.ValidMixture -/
theorem rdl_get7 {xs : List (List Int)} {i : Nat} (h : i < xs.length) : rd_L1 xs (i : Int) = xs.getD i [] := by
  unfold rd_L1; simp
theorem rdl_head7 (xs : List (List Int)) : rd_L1 xs 0 = xs.headD [] := by
  unfold rd_L1; cases xs <;> rfl
theorem rdl_get8 {xs : List (List Int)} {i : Nat} (h : i < xs.length) : rd_L1 xs (i : Int) = xs[i] := by
  unfold rd_L1; exact getD_get h
def imRow (ls : List (List Int)) (i : Nat) : Bool := !((ls.take i).any fun r => decide (r = ls.getD i [])) && (decide ((ls.getD i []).length = (ls.headD []).length) && (decide ((ls.getD i []).length ≤ 40) && (ls.getD i []).all fun x => decide (-1000000 ≤ x ∧ x ≤ 1000000)))
theorem vm1_ev (r : List Int) (x : List Int) (hr : r.length ≤ 1048576) : Ev (fun k => impl_ValidMixture_1.f k r x) (decide (r = x)) := by
  unfold impl_ValidMixture_1.f
  exact Ev.bind (slEqual_ev r x (by omega)) (Ev.now _)
theorem vmC_ev (l : List (List Int)) (x : List Int) (hl : l.length ≤ 1048576) (hr : ∀ r ∈ l, r.length ≤ 1048576) : Ev (fun k => slices_ContainsFunc_int64_int64_impl_ValidMixture_1.f k l x) (l.any fun r => decide (r = x)) := by
  obtain ⟨r, hr1, hr2⟩ := find_loop l (fun r => decide (r = x)) (fun k j => slices_IndexFunc_int64_int64_impl_ValidMixture_1.l0 k l (l.length : Int) j x)
    (by
      apply Ev.succ
      simp only [slices_IndexFunc_int64_int64_impl_ValidMixture_1.l0, if_neg (show ¬ (l.length : Int) < l.length by omega)]
      exact Ev.now _)
    (fun i hi hp => by
      apply Ev.succ
      simp only [slices_IndexFunc_int64_int64_impl_ValidMixture_1.l0, if_pos (show (i : Int) < (l.length : Int) by omega), if_pos (show 0 ≤ (i : Int) by omega), rdl_get8 hi]
      refine Ev.bind (vm1_ev l[i] x (hr _ (List.getElem_mem hi))) ?_
      simp only [hp, if_true]
      exact Ev.now _)
    (fun i hi hp r hr' => by
      apply Ev.succ
      simp only [slices_IndexFunc_int64_int64_impl_ValidMixture_1.l0, if_pos (show (i : Int) < (l.length : Int) by omega), if_pos (show 0 ≤ (i : Int) by omega), rdl_get8 hi]
      refine Ev.bind (vm1_ev l[i] x (hr _ (List.getElem_mem hi))) ?_
      simp only [hp, Bool.false_eq_true, if_false, inc hi (by omega)]
      exact hr')
  simp only [slices_ContainsFunc_int64_int64_impl_ValidMixture_1.f, slices_IndexFunc_int64_int64_impl_ValidMixture_1.f]
  refine Ev.bind hr1 ?_
  refine (Ev.now _).to ?_
  rw [hr2]
theorem im_l0 (ws : List Int) (ls : List (List Int)) (hl : ls.length ≤ 64) (hr : ∀ r ∈ ls, r.length ≤ 1048576) : Ev (fun k => impl_ValidMixture.l0 k ls (ls.length : Int) 0 ws ls) ((List.range ls.length).all (imRow ls)) := by
  have := all_step ls.length (imRow ls) (fun k i => impl_ValidMixture.l0 k ls (ls.length : Int) i ws ls) (r := true) ?_ ?_
  · rw [Bool.and_true] at this
    exact this
  · apply Ev.succ
    simp only [impl_ValidMixture.l0, if_neg (show ¬ (ls.length : Int) < ls.length by omega)]
    exact Ev.now _
  · intro i hi s hs
    have hm := hr (ls.getD i []) (by simp [List.getD_eq_getElem?_getD, hi])
    apply Ev.succ
    simp only [impl_ValidMixture.l0, if_pos (show (i : Int) < ls.length by omega), if_pos (show 0 ≤ (i : Int) by omega), if_pos (show (i : Int) ≤ ls.length by omega), rdl_get7 hi, rdl_head7, Int.toNat_natCast]
    refine Ev.bind (vmC_ev (ls.take i) (ls.getD i []) (by simp; omega) (fun r h => hr r (List.mem_of_mem_take h))) ?_
    unfold imRow
    cases (ls.take i).any fun r => decide (r = ls.getD i []) with
    | true =>
      simp only [if_true, Bool.not_true, Bool.false_and]
      exact Ev.now _
    | false =>
      simp only [Bool.false_eq_true, if_false, Bool.not_false, Bool.true_and, if_pos (show 0 < (ls.length : Int) by omega)]
      by_cases e2 : (ls.getD i []).length = (ls.headD []).length
      · simp only [if_pos (show ((ls.getD i []).length : Int) = (ls.headD []).length by omega), decide_eq_true e2, Bool.true_and]
        by_cases e3 : (ls.getD i []).length ≤ 40
        · simp only [if_neg (show ¬ ((ls.getD i []).length : Int) > 40 by omega), decide_eq_true e3, Bool.true_and]
          refine Ev.bind (areWithin_ev (ls.getD i []) (-1000000) 1000000 (by omega)) ?_
          cases (ls.getD i []).all fun n => decide (-1000000 ≤ n ∧ n ≤ 1000000) with
          | true =>
            simp only [if_true, Bool.true_and, inc hi (by omega)]
            exact hs
          | false =>
            simp only [Bool.false_eq_true, if_false, Bool.false_and]
            exact Ev.now _
        · simp only [if_pos (show ((ls.getD i []).length : Int) > 40 by omega), decide_eq_false e3, Bool.false_and]
          exact Ev.now _
      · simp only [if_neg (show ¬ ((ls.getD i []).length : Int) = (ls.headD []).length by omega), decide_eq_false e2, Bool.false_and]
        exact Ev.now _
theorem im_rows (ls : List (List Int)) (h : 1 ≤ ls.length) : (List.range ls.length).all (imRow ls) = (decide ((ls.headD []).length ≤ 40) && (List.range ls.length).all (mxRow ls)) := by
  have hd : ls.getD 0 [] = ls.headD [] := by cases ls <;> rfl
  have tk : ∀ i, i < ls.length → ((ls.take i).any fun r => decide (r = ls.getD i [])) = !((List.range i).all fun j => !decide (ls.getD j [] = ls.getD i [])) := by
    intro i hi
    have := all_range (ls.take i) (fun r => !decide (r = ls.getD i [])) []
    rw [List.length_take, Nat.min_eq_left (by omega)] at this
    rw [show ((List.range i).all fun j => !decide (ls.getD j [] = ls.getD i [])) = (ls.take i).all (fun r => !decide (r = ls.getD i [])) from ?_]
    · generalize ls.getD i [] = x
      induction (ls.take i) with
      | nil => rfl
      | cons y l ih => rw [List.any_cons, List.all_cons, ih, Bool.not_and, Bool.not_not]
    · rw [← this]
      rw [Bool.eq_iff_iff, List.all_eq_true, List.all_eq_true]
      refine forall_congr' fun j => forall_congr' fun hj => ?_
      have hj' : j < i := by simpa using hj
      have : (ls.take i).getD j [] = ls.getD j [] := by simp [List.getD_eq_getElem?_getD, List.getElem?_take, hj']
      rw [this]
  rw [Bool.eq_iff_iff, Bool.and_eq_true, List.all_eq_true, List.all_eq_true, decide_eq_true_iff]
  constructor
  · intro a
    refine ⟨?_, fun i hi => ?_⟩
    · have := a 0 (List.mem_range.2 (by omega))
      simp only [imRow, Bool.and_eq_true, decide_eq_true_eq, hd] at this
      exact this.2.2.1
    · have hi' : i < ls.length := by simpa using hi
      have := a i hi
      simp only [imRow, tk i hi', Bool.not_not, Bool.and_eq_true, decide_eq_true_eq] at this
      simp only [mxRow, Bool.and_eq_true, decide_eq_true_eq]
      exact ⟨this.2.1, this.2.2.2, this.1⟩
  · rintro ⟨a, b⟩ i hi
    have hi' : i < ls.length := by simpa using hi
    have := b i hi
    simp only [mxRow, Bool.and_eq_true, decide_eq_true_eq] at this
    simp only [imRow, tk i hi', Bool.not_not, Bool.and_eq_true, decide_eq_true_eq]
    exact ⟨this.2.2, this.1, by omega, this.2.1⟩
theorem iVM_ev (ws : List Int) (ls : List (List Int)) (hw : ws.length ≤ 1048576) (hl : ls.length ≤ 1048576) (hr : ∀ r ∈ ls, r.length ≤ 1048576) : Ev (fun k => impl_ValidMixture.f k ws ls) (VM ws ls) := by
  unfold impl_ValidMixture.f VM
  simp only [within_eq, impl_size_int64.f, Option.bind_some]
  by_cases h1 : 1 ≤ (ls.length : Int) ∧ (ls.length : Int) ≤ 64
  · by_cases h2 : ws.length = ls.length
    · simp only [decide_eq_true h1, decide_eq_true h2, if_true, if_pos (show (ws.length : Int) = ls.length by omega), Bool.true_and]
      refine Ev.bind (areWithin_ev ws 1 1000000 (by omega)) ?_
      have e : mxW ws = ws.all fun n => decide (1 ≤ n ∧ n ≤ 1000000) := rfl
      rw [← e]
      cases mxW ws with
      | true =>
        simp only [if_true, Bool.true_and]
        refine Ev.bind (isum_ev ws (by omega)) ?_
        apply Ev.succ
        by_cases h4 : wsum 0 ws ≤ 1000000
        · simp only [impl_ValidMixture.j0, decide_eq_false (show ¬ wsum 0 ws > 1000000 by omega), Bool.false_eq_true, if_false, decide_eq_true h4, Bool.and_true]
          exact (im_l0 ws ls (by omega) hr).to (im_rows ls (by omega))
        · simp only [impl_ValidMixture.j0, decide_eq_true (show wsum 0 ws > 1000000 by omega), if_true, decide_eq_false h4, Bool.and_false]
          exact Ev.now _
      | false =>
        simp only [Bool.false_eq_true, if_false, Bool.false_and, Bool.and_false]
        apply Ev.succ
        simp only [impl_ValidMixture.j0, if_true]
        exact Ev.now _
    · simp only [decide_eq_true h1, decide_eq_false h2, if_true, if_neg (show ¬ (ws.length : Int) = ls.length by omega), Bool.false_and, Bool.and_false]
      apply Ev.succ
      simp only [impl_ValidMixture.j0, if_true]
      exact Ev.now _
  · simp only [decide_eq_false h1, Bool.false_eq_true, if_false, Bool.false_and]
    apply Ev.succ
    simp only [impl_ValidMixture.j0, if_true]
    exact Ev.now _

/-! impl.ValidValues -/
theorem validValues_ev (den : Int) (vs : List Int) (hv : vs.length ≤ 9223372036854775806) : Ev (fun k => impl_ValidValues.f k den vs) (VV den vs) := by
  unfold impl_ValidValues.f VV
  simp only [within_eq, Option.bind_some]
  by_cases c : 1 ≤ den ∧ den ≤ 1000
  · simp only [decide_eq_true c, if_true, Bool.true_and]
    by_cases c2 : vs.length ≤ 40
    · simp only [decide_eq_true c2, if_pos (show (vs.length : Int) ≤ 40 by omega), Bool.true_and]
      exact Ev.bind (areWithin_ev vs (-1000000) 1000000 hv) (Ev.now _)
    · simp only [decide_eq_false c2, if_neg (show ¬ (vs.length : Int) ≤ 40 by omega), Bool.false_and]
      exact Ev.now _
  · simp only [decide_eq_false c, Bool.false_eq_true, if_false, Bool.false_and]
    exact Ev.now _

/-! impl.Mixture).totals -/
theorem mt_dl {xs : List (List Int)} {i : Nat} : rd_L1 xs (i : Int) = xs.getD i [] := by
  unfold rd_L1; simp
theorem mt_d0 (xs : List (List Int)) : rd_L1 xs 0 = xs.headD [] := by
  unfold rd_L1; cases xs <;> rfl
theorem mt_l1 (W : List Int) (L : List (List Int)) (h : MB W L) (i : Nat) (n : Nat) (hi : i < L.length) (hn : (L.getD i []).length = n) (hs : n ≤ 1048576) {R : List Int} (hR : Ev (fun k => impl_Mixture_totals.l0 k (stair (mcol W L) n (i + 1) 0) L (L.length : Int) (wrap64 ((i : Int) + 1)) W L) R) : ∀ (d j : Nat), d + j = n → Ev (fun k => impl_Mixture_totals.l1 k (stair (mcol W L) n i j) i L (L.length : Int) i (L.getD i []) (n : Int) j W L) R := by
  intro d
  induction d with
  | zero =>
    intro j hd
    apply Ev.succ
    simp only [impl_Mixture_totals.l1, if_neg (show ¬ (j : Int) < (n : Int) by omega)]
    rw [show j = n by omega, stair_end]
    exact hR
  | succ d ih =>
    intro j hd
    have hw := h.1
    apply Ev.succ
    simp only [impl_Mixture_totals.l1, stair_length, hn, if_pos (show (j : Int) < (n : Int) by omega), if_pos (show 0 ≤ (j : Int) by omega), if_pos (show 0 ≤ (i : Int) by omega), if_pos (show (i : Int) < (W.length : Int) by omega), mrd, Int.toNat_natCast, inc (show j < n by omega) (by omega)]
    rw [stair_get _ _ _ _ _ (show j < n by omega), if_neg (show ¬ j < j by omega), mb_wrap h i j hi, stair_set _ _ _ _ (show j < n by omega)]
    exact ih (j + 1) (by omega)
theorem mt_l0 (W : List Int) (L : List (List Int)) (h : MB W L) (n : Nat) (hl : L.length ≤ 1048576) (hn : ∀ i, i < L.length → (L.getD i []).length = n) (hs : n ≤ 1048576) : ∀ (d i : Nat), d + i = L.length → Ev (fun k => impl_Mixture_totals.l0 k (stair (mcol W L) n i 0) L (L.length : Int) i W L) (stair (mcol W L) n L.length 0) := by
  intro d
  induction d with
  | zero =>
    intro i hd
    apply Ev.succ
    simp only [impl_Mixture_totals.l0, if_neg (show ¬ (i : Int) < (L.length : Int) by omega)]
    rw [show i = L.length by omega]
    exact Ev.now _
  | succ d ih =>
    intro i hd
    apply Ev.succ
    simp only [impl_Mixture_totals.l0, if_pos (show (i : Int) < (L.length : Int) by omega), if_pos (show 0 ≤ (i : Int) by omega), mt_dl, hn i (show i < L.length by omega)]
    refine mt_l1 W L h i n (by omega) (hn i (by omega)) hs ?_ n 0 (by omega)
    rw [inc (show i < L.length by omega) (by omega)]
    exact ih (i + 1) (by omega)
theorem totals_ev (W : List Int) (L : List (List Int)) (h : MB W L) (h0 : 0 < L.length) (hl : L.length ≤ 1048576) (hn : ∀ i, i < L.length → (L.getD i []).length = (L.headD []).length) (hs : (L.headD []).length ≤ 1048576) : Ev (fun k => impl_Mixture_totals.f k W L) (mtot W L) := by
  simp only [impl_Mixture_totals.f, if_pos (show 0 < (L.length : Int) by omega), mt_d0, if_pos (show 0 ≤ ((L.headD []).length : Int) by omega), Int.toNat_natCast, if_pos (show (L.headD []).length ≤ 35184372088832 by omega)]
  rw [mcol_first W L]
  exact (mt_l0 W L h (L.headD []).length hl hn hs L.length 0 (by omega)).to (mcol_last W L)

/-! impl.divisor -/
theorem div_l0 : ∀ (n : Nat) (a b : Int), b.natAbs ≤ n → a.natAbs ≤ 9223372036854775807 → b.natAbs ≤ 9223372036854775807 → Ev (fun k => impl_divisor.l0 k a b) (Int.gcd a b : Int) := by
  intro n
  induction n with
  | zero =>
    intro a b hn ha hb
    have e : b = 0 := by omega
    subst e
    apply Ev.succ
    simp only [impl_divisor.l0, if_true]
    refine (Ev.now _).to ?_
    rw [w64 (by omega) (by omega), Int.gcd_zero_right]
    unfold mx
    split <;> omega
  | succ n ih =>
    intro a b hn ha hb
    by_cases hz : b = 0
    · subst hz
      apply Ev.succ
      simp only [impl_divisor.l0, if_true]
      refine (Ev.now _).to ?_
      rw [w64 (by omega) (by omega), Int.gcd_zero_right]
      unfold mx
      split <;> omega
    · apply Ev.succ
      simp only [impl_divisor.l0, if_neg hz]
      have := tmod_abs_lt (a := a) hz
      exact (ih b (a.tmod b) (by omega) hb (by omega)).to (by rw [gcd_step])
theorem divisor_ev (a b : Int) (ha : a.natAbs ≤ 9223372036854775807) (hb : b.natAbs ≤ 9223372036854775807) : Ev (fun k => impl_divisor.f k a b) (Int.gcd a b : Int) := div_l0 b.natAbs a b (Nat.le_refl _) ha hb

/-! impl.sums -/
theorem rdl_getS {xs : List (List Int)} {i : Nat} (h : i < xs.length) : rd_L1 xs (i : Int) = xs[i] := by
  unfold rd_L1; exact getD_get h
theorem sums_l0 (l : List (List Int)) (hl : l.length ≤ 1048576) (hr : ∀ r ∈ l, r.length ≤ 1048576) : ∀ (d i : Nat), d + i = l.length → Ev (fun k => impl_sums.l0 k ((l.take i).map (wsum 0)) l (l.length : Int) i) (l.map (wsum 0)) := by
  intro d
  induction d with
  | zero =>
    intro i hd
    apply Ev.succ
    simp only [impl_sums.l0, if_neg (show ¬ (i : Int) < (l.length : Int) by omega)]
    rw [List.take_of_length_le (by omega)]
    exact Ev.now _
  | succ d ih =>
    intro i hd
    have hi : i < l.length := by omega
    have hm := hr l[i] (List.getElem_mem hi)
    apply Ev.succ
    simp only [impl_sums.l0, if_pos (show (i : Int) < (l.length : Int) by omega), if_pos (show 0 ≤ (i : Int) by omega), rdl_getS hi, inc hi (by omega)]
    refine Ev.bind (isum_ev l[i] (by omega)) ?_
    simp only [if_pos (show ((l.take i).map (wsum 0)).length < 17592186044416 by simp; omega)]
    have := ih (i + 1) (by omega)
    rw [List.take_succ_eq_append_getElem hi, List.map_append] at this
    exact this
theorem sums_ev (l : List (List Int)) (hl : l.length ≤ 1048576) (hr : ∀ r ∈ l, r.length ≤ 1048576) : Ev (fun k => impl_sums.f k l) (l.map (wsum 0)) := by
  have := sums_l0 l hl hr l.length 0 (by omega)
  unfold impl_sums.f
  exact this

/-! slices.Sort   int64,int64  -/
theorem sort_eq {l : List Int} (h0 : 0 < l.length) (h : l.length < 4611686018427387904) : slices_Sort_int64_int64.f l = some (SORT l) := by
  unfold slices_Sort_int64_int64.f
  rw [if_neg (fun e => by rw [e] at h0; simp at h0), if_pos h]
  rfl

/-! slices.Compact   int64,int64  -/
theorem compact_eq {l : List Int} (h0 : 0 < l.length) : slices_Compact_int64_int64.f l = some (Go.Lib.compact l) := by
  unfold slices_Compact_int64_int64.f
  rw [if_neg (fun e => by rw [e] at h0; simp at h0)]

/-! spec.l00Own -/
theorem own_eq (l : List Int) (h : l.length ≤ 1048576) : spec_l00Own.f l = some l := by
  unfold spec_l00Own.f
  simp only [Option.bind_some, List.length_nil, List.nil_append]
  rw [if_pos (by omega)]

/-! spec.l01Floor -/
theorem tdiv_mul_range {a b m : Int} (hb : 0 < b) (h1 : -m ≤ a) (h2 : a ≤ m) : -m ≤ a.tdiv b * b ∧ a.tdiv b * b ≤ m := by
  have h := ediv_bounds (a := a) hb
  rcases tdiv_cases (a := a) hb with ⟨e, _, h3⟩ | ⟨e, _, h3, h4⟩
  · rw [e]
    rcases h3 with h3 | h3
    · have : 0 ≤ a / b * b := Int.mul_nonneg (Int.ediv_nonneg h3 (by omega)) (by omega)
      omega
    · have := Int.emod_add_mul_ediv a b
      have h5 : b * (a / b) = (a / b) * b := Int.mul_comm _ _
      omega
  · have h5 : (a / b + 1) * b = a / b * b + b := by rw [Int.add_mul, Int.one_mul]
    have h6 : a / b < 0 := Int.ediv_neg_of_neg_of_pos h3 hb
    have h7 : (a / b + 1) * b ≤ 0 * b := Int.mul_le_mul_of_nonneg_right (by omega) (by omega)
    rw [e]
    omega
theorem sfloor_eq {a b : Int} (hb : 0 < b) (h1 : -9223372036854775807 ≤ a) (h2 : a ≤ 9223372036854775807) : spec_l01Floor.f a b = some (a / b) := by
  have r1 := tdiv_range hb h1 h2 (by omega)
  have r2 := tdiv_mul_range hb h1 h2
  have hf := floorA (a := a) hb
  have e1 : wrap64 (a.tdiv b) = a.tdiv b := w64 (by omega) (by omega)
  have e2 : wrap64 (a.tdiv b * b) = a.tdiv b * b := w64 (by omega) (by omega)
  unfold spec_l01Floor.f
  rw [if_neg (by omega), e1, e2]
  by_cases h : a.tdiv b * b > a
  · rw [if_pos h] at hf
    rw [if_pos h, w64 (by omega) (by omega), hf]
  · rw [if_neg h] at hf
    rw [if_neg h, hf]

/-! spec.l06Start -/
theorem sta_l0 (o : List Int) (den : Int) (nums : List Int) (n : Nat) (hn : n ≤ 40) (hd : 1 ≤ den ∧ den ≤ 12) (hnl : nums.length = n) (ho : o.length = n) (hx : ∀ x ∈ o, 0 ≤ x ∧ x < n) (hv : ∀ x ∈ nums, -20 ≤ x ∧ x ≤ 39) : ∀ (e i : Nat) (out : List Int) (sum : Int), e + i = n → out.length = n → (∀ x ∈ out, -1000000 ≤ x ∧ x ≤ 1000000) → -(20 * i) ≤ sum → sum ≤ 12 + 39 * i → ∃ r : List Int, Ev (fun k => spec_l06Start.l0 k o out sum (i : Int) den nums) r ∧ r.length = n ∧ ∀ x ∈ r, -1000000 ≤ x ∧ x ≤ 1000000 := by
  intro e
  induction e with
  | zero =>
    intro i out sum hi hl hb _ _
    refine ⟨out, ?_, hl, hb⟩
    apply Ev.succ
    simp only [spec_l06Start.l0, if_neg (show ¬ (i : Int) < (o.length : Int) by omega)]
    exact Ev.now _
  | succ e ih =>
    intro i out sum hi hl hb s0 s1
    have hio : i < o.length := by omega
    have hq := hx o[i] (List.getElem_mem hio)
    obtain ⟨m, hm⟩ := Int.eq_ofNat_of_zero_le hq.1
    have hmn : m < nums.length := by omega
    have hvv := hv nums[m] (List.getElem_mem hmn)
    have e1 : rd o (i : Int) = (m : Int) := by rw [rd_get hio]; exact hm
    have e2 : rd nums (m : Int) = nums[m] := rd_get hmn
    have f1 := ediv_range (a := sum + nums[m]) (b := den) (m := 100000) (by omega) (by omega) (by omega) (by omega)
    have f2 := ediv_range (a := sum) (b := den) (m := 100000) (by omega) (by omega) (by omega) (by omega)
    obtain ⟨r, hr, hr1, hr2⟩ := ih (i + 1) (out.set m ((sum + nums[m]) / den - sum / den)) (sum + nums[m]) (by omega) (by simpa using hl) (fun x hx' => by
      rcases List.mem_or_eq_of_mem_set hx' with h | h
      · exact hb x h
      · rw [h]; omega) (by omega) (by omega)
    refine ⟨r, ?_, hr1, hr2⟩
    apply Ev.succ
    simp only [spec_l06Start.l0, if_pos (show (i : Int) < (o.length : Int) by omega), if_pos (show 0 ≤ (i : Int) by omega), e1, if_pos (show 0 ≤ (m : Int) by omega), if_pos (show (m : Int) < (nums.length : Int) by omega), e2, w64 (show (-9223372036854775808) ≤ sum + nums[m] by omega) (by omega), sfloor_eq (a := sum + nums[m]) (b := den) (by omega) (by omega) (by omega), sfloor_eq (a := sum) (b := den) (by omega) (by omega) (by omega), Option.bind_some, if_pos (show (m : Int) < (out.length : Int) by omega), w64 (show (-9223372036854775808) ≤ (sum + nums[m]) / den - sum / den by omega) (by omega), Int.toNat_natCast, inc hio (by omega)]
    exact hr
theorem sta_ev (o : List Int) (den : Int) (nums : List Int) (n : Nat) (t : Int) (hn : n ≤ 40) (hd : 1 ≤ den ∧ den ≤ 12) (hnl : nums.length = n) (ho : o.length = n) (hx : ∀ x ∈ o, 0 ≤ x ∧ x < n) (hv : ∀ x ∈ nums, -20 ≤ x ∧ x ≤ 39) (h0 : 0 ≤ t) (h1 : t ≤ 12) : ∃ r : List Int, Ev (fun k => spec_l06Start.f k den nums o t) r ∧ r.length = n ∧ ∀ x ∈ r, -1000000 ≤ x ∧ x ≤ 1000000 := by
  obtain ⟨r, hr, hr1, hr2⟩ := sta_l0 o den nums n hn hd hnl ho hx hv n 0 (List.replicate n 0) t (by omega) (by simp) (fun x hx => by
    have := (List.mem_replicate.1 hx).2
    omega) (by omega) (by omega)
  refine ⟨r, ?_, hr1, hr2⟩
  unfold spec_l06Start.f
  simp only [ho, if_pos (show 0 ≤ (n : Int) by omega), Int.toNat_natCast, if_pos (show n ≤ 35184372088832 by omega)]
  exact hr

/-! spec.l06Systematic -/
/-- Weights and lists of one length, all lists other ones. -/
def GM (n : Nat) (W : List Int) (L : List (List Int)) : Prop := W.length = L.length ∧ (∀ w ∈ W, 1 ≤ w) ∧ (∀ r ∈ L, r.length = n ∧ ∀ x ∈ r, -1000000 ≤ x ∧ x ≤ 1000000) ∧ L.Nodup
theorem rdl_sys {xs : List (List Int)} {i : Nat} (h : i < xs.length) : rd_L1 xs (i : Int) = xs[i] := by
  unfold rd_L1; exact getD_get h
theorem sum_le_mem : ∀ {W : List Int}, (∀ w ∈ W, 1 ≤ w) → (∀ w ∈ W, w ≤ W.sum) ∧ (W.length : Int) ≤ W.sum
  | [], _ => ⟨fun _ h => (by simp at h), by simp⟩
  | x :: W, h => by
    have h1 := sum_le_mem (W := W) (fun w hw => h w (List.mem_cons_of_mem _ hw))
    have h2 := h x List.mem_cons_self
    rw [List.sum_cons, List.length_cons]
    refine ⟨fun w hw => ?_, by omega⟩
    rcases List.mem_cons.1 hw with rfl | hw
    · omega
    · have := h1.1 w hw; omega
theorem gm_push {n : Nat} {W : List Int} {L : List (List Int)} {r : List Int} {w : Int} (h : GM n W L) (hw : 1 ≤ w) (hr : r.length = n) (hb : ∀ x ∈ r, -1000000 ≤ x ∧ x ≤ 1000000) (hn : r ∉ L) : GM n (W ++ [w]) (L ++ [r]) := by
  obtain ⟨h1, h2, h3, h4⟩ := h
  refine ⟨by simp [h1], fun x hx => ?_, fun x hx => ?_, ?_⟩
  · rcases List.mem_append.1 hx with h | h
    · exact h2 x h
    · rw [List.mem_singleton.1 h]; exact hw
  · rcases List.mem_append.1 hx with h | h
    · exact h3 x h
    · rw [List.mem_singleton.1 h]; exact ⟨hr, hb⟩
  · rw [List.nodup_append]
    exact ⟨h4, by simp, fun a ha b hb' e => hn (by rw [← List.mem_singleton.1 hb', ← e]; exact ha)⟩
theorem gm_bump {n : Nat} {W : List Int} {L : List (List Int)} {i : Nat} {w : Int} (h : GM n W L) (hw : 1 ≤ w) : GM n (W.set i w) L :=
  ⟨by simpa using h.1, fun x hx => by
    rcases List.mem_or_eq_of_mem_set hx with h' | h'
    · exact h.2.1 x h'
    · omega, h.2.2⟩
/-- What a place and a list make of a mixture. -/
def sysAt (i : Nat) (r : List Int) (W : List Int) (L : List (List Int)) : List Int × List (List Int) := if i < L.length then (W.set i (W.getD i 0 + 1), L) else (W ++ [1], L ++ [r])
theorem sys_l1 (o : List Int) (t den : Int) (nums r : List Int) (n : Nat) (W : List Int) (L : List (List Int)) (h : GM n W L) (hs : W.sum ≤ 12) (hn : n ≤ 40) (hr : r.length = n) (ht : 0 ≤ t ∧ t ≤ 12) {s : List Int × List (List Int)} :
    ∀ (e i : Nat), e + i = L.length → (∀ j, j < i → L.getD j [] ≠ r) → ∃ i0 : Nat, i0 ≤ L.length ∧ (∀ j, j < i0 → L.getD j [] ≠ r) ∧ (i0 < L.length → L.getD i0 [] = r) ∧ (Ev (fun k => spec_l06Systematic.l0 k o (t + 1) den nums (sysAt i0 r W L).1 (sysAt i0 r W L).2) s → Ev (fun k => spec_l06Systematic.l1 k o t r (i : Int) den nums W L) s) := by
  have hb := sum_le_mem h.2.1
  have hl := h.1
  intro e
  induction e with
  | zero =>
    intro i hi hj
    have e : i = L.length := by omega
    subst e
    refine ⟨L.length, Nat.le_refl _, hj, fun h => absurd h (Nat.lt_irrefl _), fun hs' => ?_⟩
    have q1 : (W ++ [0] : List Int).length = L.length + 1 := by simp [hl]
    have q2 : rd (W ++ [0] : List Int) (L.length : Int) = 0 := by
      rw [rd_get (show L.length < (W ++ [0] : List Int).length by omega), List.getElem_append_right (by omega)]
      simp
    have q3 : (W ++ [0] : List Int).set L.length (0 + 1) = W ++ [1] := by
      rw [List.set_append_right _ _ (by omega), hl, Nat.sub_self]; rfl
    have q4 : sysAt L.length r W L = (W ++ [1], L ++ [r]) := by simp [sysAt]
    rw [q4] at hs'
    apply Ev.succ
    simp only [spec_l06Systematic.l1, if_neg (show ¬ (L.length : Int) < (L.length : Int) by omega), if_true, if_pos (show L.length < 5864062014805 by omega), if_pos (show W.length < 17592186044416 by omega), Option.bind_some, if_pos (show 0 ≤ (L.length : Int) by omega), if_pos (show (L.length : Int) < ((W ++ [0] : List Int).length : Int) by omega), q2, Int.toNat_natCast, w64 (show (-9223372036854775808) ≤ (0 : Int) + 1 by omega) (by omega), q3, w64 (show (-9223372036854775808) ≤ t + 1 by omega) (by omega)]
    exact hs'
  | succ e ih =>
    intro i hi hj
    have hil : i < L.length := by omega
    have hlen := h.2.2.1 L[i] (List.getElem_mem hil)
    have g : L.getD i [] = L[i] := by simp [List.getD_eq_getElem?_getD, hil]
    by_cases c : L[i] = r
    · refine ⟨i, by omega, hj, fun _ => by rw [g, c], fun hs' => ?_⟩
      have hw := h.2.1 W[i] (List.getElem_mem (by omega))
      have hw2 := hb.1 W[i] (List.getElem_mem (by omega))
      have q1 : rd W (i : Int) = W.getD i 0 := by unfold rd; simp
      have q2 : W.getD i 0 = W[i] := by simp [List.getD_eq_getElem?_getD, show i < W.length by omega]
      have q4 : sysAt i r W L = (W.set i (W.getD i 0 + 1), L) := by simp [sysAt, hil]
      rw [q4] at hs'
      apply Ev.succ
      simp only [spec_l06Systematic.l1, if_pos (show (i : Int) < (L.length : Int) by omega), if_pos (show 0 ≤ (i : Int) by omega), rdl_sys hil]
      refine Ev.bind (same_ev L[i] r (by omega)) ?_
      simp only [decide_eq_true c, if_true, if_neg (show ¬ (i : Int) = (L.length : Int) by omega), if_pos (show (i : Int) < (W.length : Int) by omega), q1, Int.toNat_natCast, w64 (show (-9223372036854775808) ≤ W.getD i 0 + 1 by rw [q2]; omega) (by rw [q2]; omega), w64 (show (-9223372036854775808) ≤ t + 1 by omega) (by omega)]
      exact hs'
    · obtain ⟨i0, h1, h2, h3, h4⟩ := ih (i + 1) (by omega) (fun j hj' => by
        by_cases e : j = i
        · subst e; rw [g]; exact c
        · exact hj j (by omega))
      refine ⟨i0, h1, h2, h3, fun hs' => ?_⟩
      apply Ev.succ
      simp only [spec_l06Systematic.l1, if_pos (show (i : Int) < (L.length : Int) by omega), if_pos (show 0 ≤ (i : Int) by omega), rdl_sys hil]
      refine Ev.bind (same_ev L[i] r (by omega)) ?_
      simp only [decide_eq_false c, Bool.false_eq_true, if_false, inc hil (by omega)]
      exact h4 hs'
theorem sys_l0 (o : List Int) (den : Int) (nums : List Int) (n : Nat) (hn : n ≤ 40) (hd : 1 ≤ den ∧ den ≤ 12) (hnl : nums.length = n) (ho : o.length = n) (hx : ∀ x ∈ o, 0 ≤ x ∧ x < n) (hv : ∀ x ∈ nums, -20 ≤ x ∧ x ≤ 39) : ∀ (e : Nat) (t : Int) (W : List Int) (L : List (List Int)), t + e = den → 0 ≤ t → GM n W L → W.sum = t → ∃ r : List Int × List (List Int), Ev (fun k => spec_l06Systematic.l0 k o t den nums W L) r ∧ GM n r.1 r.2 ∧ r.1.sum = den := by
  intro e
  induction e with
  | zero =>
    intro t W L he _ h hs
    refine ⟨(W, L), ?_, h, by show W.sum = den; omega⟩
    apply Ev.succ
    simp only [spec_l06Systematic.l0, if_neg (show ¬ t < den by omega)]
    exact Ev.now _
  | succ e ih =>
    intro t W L he h0 h hs
    obtain ⟨r, hr, hr1, hr2⟩ := sta_ev o den nums n t hn hd hnl ho hx hv h0 (by omega)
    have key : ∀ i0 : Nat, i0 ≤ L.length → (∀ j, j < i0 → L.getD j [] ≠ r) → GM n (sysAt i0 r W L).1 (sysAt i0 r W L).2 ∧ (sysAt i0 r W L).1.sum = t + 1 := by
      intro i0 h1 h2
      unfold sysAt
      by_cases c : i0 < L.length
      · have hw : i0 < W.length := by rw [h.1]; exact c
        have q2 : W.getD i0 0 = W[i0] := by simp [List.getD_eq_getElem?_getD, hw]
        have := h.2.1 W[i0] (List.getElem_mem hw)
        simp only [if_pos c]
        refine ⟨gm_bump h (by omega), ?_⟩
        rw [sum_set W i0 _ hw, q2]; omega
      · simp only [if_neg c]
        refine ⟨gm_push h (by omega) hr1 hr2 (fun hm => ?_), by rw [List.sum_append]; simp; omega⟩
        obtain ⟨j, hj, e⟩ := List.getElem_of_mem hm
        exact h2 j (by omega) (by simp [List.getD_eq_getElem?_getD, hj, e])
    obtain ⟨i0, g1, g2, g3, _⟩ := sys_l1 o t den nums r n W L h (by omega) hn hr1 (by omega) (s := ([], [])) L.length 0 (by omega) (fun j hj => absurd hj (Nat.not_lt_zero _))
    obtain ⟨q1, q2⟩ := key i0 g1 g2
    obtain ⟨s, hs', hs1, hs2⟩ := ih (t + 1) (sysAt i0 r W L).1 (sysAt i0 r W L).2 (by omega) (by omega) q1 q2
    obtain ⟨i1, g1', g2', g3', g4'⟩ := sys_l1 o t den nums r n W L h (by omega) hn hr1 (by omega) (s := s) L.length 0 (by omega) (fun j hj => absurd hj (Nat.not_lt_zero _))
    have hi : i1 = i0 := by
      rcases Nat.lt_trichotomy i1 i0 with c | c | c
      · exact absurd (g3' (by omega)) (g2 i1 c)
      · exact c
      · exact absurd (g3 (by omega)) (g2' i0 c)
    subst hi
    refine ⟨s, ?_, hs1, hs2⟩
    apply Ev.succ
    simp only [spec_l06Systematic.l0, if_pos (show t < den by omega)]
    exact Ev.bind hr (g4' hs')
theorem sys_ev (o : List Int) (den : Int) (nums : List Int) (n : Nat) (hn : n ≤ 40) (hd : 1 ≤ den ∧ den ≤ 12) (hnl : nums.length = n) (ho : o.length = n) (hx : ∀ x ∈ o, 0 ≤ x ∧ x < n) (hv : ∀ x ∈ nums, -20 ≤ x ∧ x ≤ 39) : ∃ r : List Int × List (List Int), Ev (fun k => spec_l06Systematic.f k den nums o) r ∧ GM n r.1 r.2 ∧ r.1.sum = den :=
  sys_l0 o den nums n hn hd hnl ho hx hv den.toNat 0 [] [] (by omega) (by omega) ⟨rfl, fun _ h => (by simp at h), fun _ h => (by simp at h), List.nodup_nil⟩ rfl

/-! spec.l00Src).next -/
theorem rd_byte {c : List Int} (hc : ∀ x ∈ c, 0 ≤ x ∧ x ≤ 255) (i : Int) : 0 ≤ rd c i ∧ rd c i ≤ 255 := by
  unfold rd
  by_cases h : i.toNat < c.length
  · rw [List.getD_eq_getElem?_getD, List.getElem?_eq_getElem h]
    exact hc _ (List.getElem_mem h)
  · rw [List.getD_eq_getElem?_getD, List.getElem?_eq_none (by omega)]
    simp
theorem next_ok (c : List Int) (a s : Int) (hc : ∀ x ∈ c, 0 ≤ x ∧ x ≤ 255) (h0 : 0 ≤ a) (h1 : a ≤ 4611686018427387904) : ∃ v s', spec_l00Src_next.f c a s = some (v, a + 1, s') ∧ 0 ≤ v ∧ v ≤ 255 := by
  have hb := rd_byte hc a
  have e1 : wrap64 (a + 1) = a + 1 := w64 (by omega) (by omega)
  have hv : ∀ X : Int, 0 ≤ wrap64 (Go.bits .and .u64 ((IntKind.u64.wrap X) / 1099511627776) 255) ∧ wrap64 (Go.bits .and .u64 ((IntKind.u64.wrap X) / 1099511627776) 255) ≤ 255 := by
    intro X
    have h := u64_range X
    generalize IntKind.u64.wrap X = Y at h
    rw [bits255 _ (by omega) (by omega), w64 (by omega) (by omega)]
    omega
  unfold spec_l00Src_next.f
  by_cases h : a < (c.length : Int)
  · rw [if_pos h, if_pos h0, e1, if_pos (by omega), w64 (by omega) (by omega)]
    exact ⟨_, _, rfl, hb.1, hb.2⟩
  · rw [if_neg h, e1, if_neg (by omega)]
    exact ⟨_, _, rfl, (hv _).1, (hv _).2⟩

/-! spec.l00Src).pick -/
theorem pick_ok (c : List Int) (a s n : Int) (hc : ∀ x ∈ c, 0 ≤ x ∧ x ≤ 255) (h0 : 0 ≤ a) (h1 : a ≤ 4611686018427387900) (hn : 1 ≤ n) : ∃ v a' s', spec_l00Src_pick.f c a s n = some (v, a', s') ∧ 0 ≤ v ∧ v < n ∧ a ≤ a' ∧ a' ≤ a + 2 := by
  have hm : ∀ x : Int, 0 ≤ x → 2 ≤ n → 0 ≤ x.tmod n ∧ x.tmod n < n := fun x hx h2 => ⟨Int.tmod_nonneg n hx, Int.tmod_lt_of_pos x (by omega)⟩
  unfold spec_l00Src_pick.f
  by_cases h : n ≤ 1
  · rw [if_pos h]
    exact ⟨_, _, _, rfl, by omega, by omega, by omega, by omega⟩
  · rw [if_neg h]
    obtain ⟨v, s1, e, v0, v1⟩ := next_ok c a s hc h0 (by omega)
    rw [e, Option.bind_some]
    by_cases h2 : n > 200
    · obtain ⟨v', s2, e2, v2, v3⟩ := next_ok c (a + 1) s1 hc (by omega) (by omega)
      rw [if_pos h2, e2, Option.bind_some, if_neg (by omega), w64 (show -9223372036854775808 ≤ v * 256 by omega) (by omega), w64 (by omega) (by omega)]
      have := hm (v * 256 + v') (by omega) (by omega)
      exact ⟨_, _, _, rfl, this.1, this.2, by show a ≤ a + 1 + 1; omega, by show a + 1 + 1 ≤ a + 2; omega⟩
    · rw [if_neg h2, if_neg (by omega)]
      have := hm v v0 (by omega)
      exact ⟨_, _, _, rfl, this.1, this.2, by show a ≤ a + 1; omega, by show a + 1 ≤ a + 2; omega⟩

/-! spec.l04All -/
theorem all4_l0 (n : Nat) (hn : n ≤ 1000) : ∀ (e i : Nat), e + i = n → Ev (fun k => spec_l04All.l0 k (n : Int) ((List.range i).map fun j : Nat => (j : Int)) (i : Int)) ((List.range n).map fun j : Nat => (j : Int)) := by
  intro e
  induction e with
  | zero =>
    intro i hi
    have e : i = n := by omega
    subst e
    apply Ev.succ
    simp only [spec_l04All.l0, if_neg (show ¬ (i : Int) < (i : Int) by omega)]
    exact Ev.now _
  | succ e ih =>
    intro i hi
    have h := ih (i + 1) (by omega)
    rw [List.range_succ, List.map_append] at h
    apply Ev.succ
    simp only [spec_l04All.l0, if_pos (show (i : Int) < (n : Int) by omega), if_pos (show ((List.range i).map fun j : Nat => (j : Int)).length < 17592186044416 by simp; omega), inc (show i < n by omega) (by omega)]
    exact h
theorem all4_ev (n : Nat) (hn : n ≤ 1000) : Ev (fun k => spec_l04All.f k (n : Int)) ((List.range n).map fun j : Nat => (j : Int)) := all4_l0 n hn n 0 (by omega)

/-! spec.l06DrawOrder -/
theorem dor_l0 (c : List Int) (hc : ∀ x ∈ c, 0 ≤ x ∧ x ≤ 255) (n : Nat) (hn : n ≤ 40) : ∀ (e : Nat) (i : Int) (o : List Int) (a s : Int), (i = e ∨ (e = 0 ∧ i ≤ 0)) → e ≤ n - 1 → o.length = n → (∀ x ∈ o, 0 ≤ x ∧ x < n) → 0 ≤ a → a + 2 * e ≤ 4000 → ∃ (r : List Int) (a' s' : Int), Ev (fun k => spec_l06DrawOrder.l0 k o i c a s) (r, a', s') ∧ r.length = n ∧ (∀ x ∈ r, 0 ≤ x ∧ x < n) ∧ a ≤ a' ∧ a' ≤ a + 2 * e := by
  intro e
  induction e with
  | zero =>
    intro i o a s hi _ hl hx _ _
    refine ⟨o, a, s, ?_, hl, hx, by omega, by omega⟩
    apply Ev.succ
    simp only [spec_l06DrawOrder.l0, if_neg (show ¬ i > 0 by omega)]
    exact Ev.now _
  | succ e ih =>
    intro i o a s hi he hl hx h0 h1
    have hi : i = (e : Int) + 1 := by omega
    have hen : e + 1 < n := by omega
    obtain ⟨v, a1, s1, hp, v0, v1, q0, q1⟩ := pick_ok c a s (i + 1) hc h0 (by omega) (by omega)
    obtain ⟨m, hm⟩ := Int.eq_ofNat_of_zero_le v0
    have hm' : m < o.length := by omega
    have g1 : rd o i ∈ o := by rw [show i = ((e + 1 : Nat) : Int) by omega, rd_get (show e + 1 < o.length by omega)]; exact List.getElem_mem _
    have g2 : rd o v ∈ o := by rw [hm]; exact (rd_get hm') ▸ List.getElem_mem hm'
    obtain ⟨r, a', s', hr, hr1, hr2, hr3, hr4⟩ := ih (i - 1) ((o.set v.toNat (rd o i)).set i.toNat (rd o v)) a1 s1 (by omega) (by omega) (by simp; omega) (fun x hx' => by
      rcases List.mem_or_eq_of_mem_set hx' with h | h
      · rcases List.mem_or_eq_of_mem_set h with h | h
        · exact hx x h
        · rw [h]; exact hx _ g1
      · rw [h]; exact hx _ g2) (by omega) (by omega)
    refine ⟨r, a', s', ?_, hr1, hr2, by omega, by omega⟩
    apply Ev.succ
    simp only [spec_l06DrawOrder.l0, if_pos (show i > 0 by omega), w64 (show (-9223372036854775808) ≤ i + 1 by omega) (by omega), hp, Option.bind_some, if_pos v0, if_pos (show v < (o.length : Int) by omega), if_pos (show 0 ≤ i by omega), if_pos (show i < (o.length : Int) by omega), w64 (show (-9223372036854775808) ≤ i - 1 by omega) (by omega)]
    exact hr
theorem dor_ev (c : List Int) (hc : ∀ x ∈ c, 0 ≤ x ∧ x ≤ 255) (n : Nat) (hn : n ≤ 40) (a s : Int) (h0 : 0 ≤ a) (h1 : a ≤ 1000) : ∃ (r : List Int) (a' s' : Int), Ev (fun k => spec_l06DrawOrder.f k c a s (n : Int)) (r, a', s') ∧ r.length = n ∧ (∀ x ∈ r, 0 ≤ x ∧ x < n) ∧ a ≤ a' ∧ a' ≤ a + 80 := by
  obtain ⟨r, a', s', hr, hr1, hr2, hr3, hr4⟩ := dor_l0 c hc n hn (n - 1) ((n : Int) - 1) ((List.range n).map fun j : Nat => (j : Int)) a s (by omega) (by omega) (by simp) (fun x hx => by
    obtain ⟨j, hj, rfl⟩ := List.mem_map.1 hx
    have := List.mem_range.1 hj
    omega) h0 (by omega)
  refine ⟨r, a', s', ?_, hr1, hr2, hr3, by omega⟩
  unfold spec_l06DrawOrder.f
  refine Ev.bind (all4_ev n (by omega)) ?_
  simp only [w64 (show (-9223372036854775808) ≤ (n : Int) - 1 by omega) (by omega)]
  exact hr

/-! spec.l00Src).one -/
theorem one_ok (c : List Int) (a s n : Int) (hc : ∀ x ∈ c, 0 ≤ x ∧ x ≤ 255) (h0 : 0 ≤ a) (h1 : a ≤ 4611686018427387900) (hn : 1 ≤ n) : ∃ (v : Bool) (a' s' : Int), spec_l00Src_one.f c a s n = some (v, a', s') ∧ a ≤ a' ∧ a' ≤ a + 2 := by
  obtain ⟨v, a', s', e, _, _, h2, h3⟩ := pick_ok c a s n hc h0 h1 hn
  unfold spec_l00Src_one.f
  rw [e, Option.bind_some]
  exact ⟨_, _, _, rfl, h2, h3⟩

/-! spec.l01DrawOk -/
theorem dok_l0 (c : List Int) (hc : ∀ x ∈ c, 0 ≤ x ∧ x ≤ 255) (low den : Int) (hl : low = 0 ∨ low = 20) : ∀ (e : Nat) (n : Int) (xs : List Int) (a s : Int), n = e → e ≤ 40 → xs.length + e ≤ 40 → 0 ≤ a → a + 2 * e ≤ 4000 → (∀ x ∈ xs, -20 ≤ x ∧ x ≤ 39) → ∃ (r : List Int) (a' s' : Int), Ev (fun k => spec_l01DrawOk.l0 k low n c a s den xs) (den, r, a', s') ∧ r.length ≤ 40 ∧ (∀ x ∈ r, -20 ≤ x ∧ x ≤ 39) ∧ a ≤ a' ∧ a' ≤ a + 2 * e := by
  intro e
  induction e with
  | zero =>
    intro n xs a s hn _ hl2 _ _ hx
    refine ⟨xs, a, s, ?_, by omega, hx, by omega, by omega⟩
    apply Ev.succ
    simp only [spec_l01DrawOk.l0, if_neg (show ¬ n > 0 by omega)]
    exact Ev.now _
  | succ e ih =>
    intro n xs a s hn he hl2 h0 h1 hx
    obtain ⟨v, a1, s1, hp, v0, v1, q0, q1⟩ := pick_ok c a s 40 hc h0 (by omega) (by omega)
    obtain ⟨r, a', s', hr, hr1, hr2, hr3, hr4⟩ := ih (n - 1) (xs ++ [v - low]) a1 s1 (by omega) (by omega) (by simp; omega) (by omega) (by omega) (fun x hx' => by
      rcases List.mem_append.1 hx' with h | h
      · exact hx x h
      · rw [List.mem_singleton.1 h]; omega)
    refine ⟨r, a', s', ?_, hr1, hr2, by omega, by omega⟩
    apply Ev.succ
    simp only [spec_l01DrawOk.l0, if_pos (show n > 0 by omega), hp, Option.bind_some, if_pos (show xs.length < 17592186044416 by omega), w64 (show (-9223372036854775808) ≤ v - low by omega) (by omega), w64 (show (-9223372036854775808) ≤ n - 1 by omega) (by omega)]
    exact hr
theorem dok_j0 (c : List Int) (hc : ∀ x ∈ c, 0 ≤ x ∧ x ≤ 255) (low den a s : Int) (hl : low = 0 ∨ low = 20) (h0 : 0 ≤ a) (h1 : a ≤ 1000) : ∃ (r : List Int) (a' s' : Int), Ev (fun k => spec_l01DrawOk.j0 k low c a s den []) (den, r, a', s') ∧ r.length ≤ 40 ∧ (∀ x ∈ r, -20 ≤ x ∧ x ≤ 39) ∧ a ≤ a' ∧ a' ≤ a + 84 := by
  obtain ⟨v, a1, s1, hp, v0, v1, q0, q1⟩ := pick_ok c a s 8 hc h0 (by omega) (by omega)
  obtain ⟨b, a2, s2, hb, b0, b1⟩ := one_ok c a1 s1 24 hc (by omega) (by omega) (by omega)
  obtain ⟨m, hm⟩ := Int.eq_ofNat_of_zero_le v0
  cases b with
  | true =>
    obtain ⟨r, a', s', hr, hr1, hr2, hr3, hr4⟩ := dok_l0 c hc low den hl 40 40 [] a2 s2 (by omega) (by omega) (by simp) (by omega) (by omega) (fun x hx => by simp at hx)
    refine ⟨r, a', s', ?_, hr1, hr2, by omega, by omega⟩
    apply Ev.succ
    simp only [spec_l01DrawOk.j0, hp, Option.bind_some, hb, if_true]
    apply Ev.succ
    simp only [spec_l01DrawOk.j1]
    exact hr
  | false =>
    obtain ⟨r, a', s', hr, hr1, hr2, hr3, hr4⟩ := dok_l0 c hc low den hl m v [] a2 s2 (by omega) (by omega) (by simp; omega) (by omega) (by omega) (fun x hx => by simp at hx)
    refine ⟨r, a', s', ?_, hr1, hr2, by omega, by omega⟩
    apply Ev.succ
    simp only [spec_l01DrawOk.j0, hp, Option.bind_some, hb, Bool.false_eq_true, if_false]
    apply Ev.succ
    simp only [spec_l01DrawOk.j1]
    exact hr
theorem dok_ev (c : List Int) (hc : ∀ x ∈ c, 0 ≤ x ∧ x ≤ 255) (a s : Int) (h0 : 0 ≤ a) (h1 : a ≤ 900) : ∃ (den : Int) (r : List Int) (a' s' : Int), Ev (fun k => spec_l01DrawOk.f k c a s) (den, r, a', s') ∧ 1 ≤ den ∧ den ≤ 12 ∧ r.length ≤ 40 ∧ (∀ x ∈ r, -20 ≤ x ∧ x ≤ 39) ∧ a ≤ a' ∧ a' ≤ a + 88 := by
  obtain ⟨v, a1, s1, hp, v0, v1, q0, q1⟩ := pick_ok c a s 12 hc h0 (by omega) (by omega)
  obtain ⟨b, a2, s2, hb, b0, b1⟩ := one_ok c a1 s1 6 hc (by omega) (by omega) (by omega)
  cases b with
  | true =>
    obtain ⟨r, a', s', hr, hr1, hr2, hr3, hr4⟩ := dok_j0 c hc 20 (1 + v) a2 s2 (.inr rfl) (by omega) (by omega)
    refine ⟨1 + v, r, a', s', ?_, by omega, by omega, hr1, hr2, by omega, by omega⟩
    simp only [spec_l01DrawOk.f, hp, Option.bind_some, hb, if_true, w64 (show (-9223372036854775808) ≤ 1 + v by omega) (by omega)]
    exact hr
  | false =>
    obtain ⟨r, a', s', hr, hr1, hr2, hr3, hr4⟩ := dok_j0 c hc 0 (1 + v) a2 s2 (.inl rfl) (by omega) (by omega)
    refine ⟨1 + v, r, a', s', ?_, by omega, by omega, hr1, hr2, by omega, by omega⟩
    simp only [spec_l01DrawOk.f, hp, Option.bind_some, hb, Bool.false_eq_true, if_false, w64 (show (-9223372036854775808) ≤ 1 + v by omega) (by omega)]
    exact hr

/-! spec.l06DrawOk -/
theorem gm_vm {n : Nat} {W : List Int} {L : List (List Int)} (h : GM n W L) (hn : n ≤ 40) (h0 : 1 ≤ W.sum) (h1 : W.sum ≤ 64) : VM W L = true := by
  obtain ⟨g1, g2, g3, g4⟩ := h
  have hb := sum_le_mem g2
  have hne : 1 ≤ L.length := by
    rcases Nat.eq_zero_or_pos L.length with e | e
    · rw [e] at g1
      rw [List.length_eq_zero_iff.1 g1] at h0
      simp at h0
    · exact e
  have hd : (L.headD []).length = n := by
    cases L with
    | nil => simp at hne
    | cons r L => exact (g3 r List.mem_cons_self).1
  have hs : wsum 0 W = W.sum := by
    rw [wsum_eq 64 W 0 (fun x hx => by have := g2 x hx; have := hb.1 x hx; omega) (by omega) (by omega) (by omega)]; omega
  simp only [VM, mxW, Bool.and_eq_true, decide_eq_true_eq, List.all_eq_true, hs, hd]
  refine ⟨by omega, g1, hn, fun w hw => ?_, fun i hi => ?_, by omega⟩
  · have := g2 w hw; have := hb.1 w hw; omega
  · have hi' : i < L.length := by simpa using hi
    have gi : L.getD i [] = L[i] := by simp [List.getD_eq_getElem?_getD, hi']
    have := g3 L[i] (List.getElem_mem hi')
    simp only [mxRow, Bool.and_eq_true, decide_eq_true_eq, List.all_eq_true, hd, gi]
    refine ⟨this.1, this.2, fun j hj => ?_⟩
    have hj' : j < i := by simpa using hj
    have gj : L.getD j [] = L[j] := by simp [List.getD_eq_getElem?_getD, show j < L.length by omega]
    simp only [gj, Bool.not_eq_true', decide_eq_false_iff_not]
    intro e
    exact absurd ((List.getElem_inj g4).1 e) (by omega)
theorem vm_sum {W : List Int} {L : List (List Int)} (h : VM W L = true) : W.length ≤ 64 := by
  have := vm_facts h
  omega
theorem mok_l1 (c : List Int) (hc : ∀ x ∈ c, 0 ≤ x ∧ x ≤ 255) (n e : Int) (W : List Int) (L : List (List Int)) (hn : 0 ≤ n ∧ n ≤ 3) (he : 1 ≤ e ∧ e ≤ 4) (hW : VM W L = true ∨ (W = [] ∧ L = [])) (hl : W.length ≤ 4 ∧ L.length ≤ 4)
    (hgo : ∀ (W' : List Int) (L' : List (List Int)) (a s : Int), VM W' L' = true → W'.sum ≤ W.sum + 6 → W'.length ≤ W.length + 1 → L'.length ≤ L.length + 1 → 0 ≤ a → a ≤ 1000 - 10 * (e - 1) → ∃ r : List Int × List (List Int) × Int × Int, Ev (fun k => spec_l06DrawOk.l0 k n (e - 1) c a s W' L') r ∧ VM r.1 r.2.1 = true ∧ r.1.sum ≤ 24) (hs : 0 ≤ W.sum) :
    ∀ (d i : Nat) (xs : List Int) (a s : Int), (d + i : Int) = n → xs.length = i → (∀ x ∈ xs, -1 ≤ x ∧ x ≤ 3) → 0 ≤ a → a + 2 * d + 2 ≤ 1000 - 10 * (e - 1) → ∃ r : List Int × List (List Int) × Int × Int, Ev (fun k => spec_l06DrawOk.l1 k n e xs (i : Int) c a s W L) r ∧ VM r.1 r.2.1 = true ∧ r.1.sum ≤ 24 := by
  intro d
  induction d with
  | zero =>
    intro i xs a s hd hx hb h0 h1
    obtain ⟨v, a1, s1, hp, v0, v1, q0, q1⟩ := pick_ok c a s 6 hc h0 (by omega) (by omega)
    have hlr : ∀ r ∈ L ++ [xs], r.length ≤ 1048576 := by
      intro r hr
      rcases List.mem_append.1 hr with h | h
      · rcases hW with hW | hW
        · obtain ⟨f1, f2, f3, f4, f5, f6, f7⟩ := vm_facts hW
          obtain ⟨j, hj, rfl⟩ := List.getElem_of_mem h
          have := (f6 j hj).1
          rw [show L.getD j [] = L[j] by simp [List.getD_eq_getElem?_getD, hj]] at this
          omega
        · rw [hW.2] at h; simp at h
      · rw [List.mem_singleton.1 h]; omega
    have hit : ∃ r : List Int × List (List Int) × Int × Int, Ev (fun k => (spec_l06Is.f k (W ++ [1 + v]) (L ++ [xs])).bind fun t => if t = true then spec_l06DrawOk.l0 k n (e - 1) c a1 s1 (W ++ [1 + v]) (L ++ [xs]) else spec_l06DrawOk.l0 k n (e - 1) c a1 s1 W L) r ∧ VM r.1 r.2.1 = true ∧ r.1.sum ≤ 24 := by
      cases hv : VM (W ++ [1 + v]) (L ++ [xs]) with
      | true =>
        obtain ⟨r, hr, hr1, hr2⟩ := hgo (W ++ [1 + v]) (L ++ [xs]) a1 s1 hv (by rw [List.sum_append]; simp; omega) (by simp) (by simp) (by omega) (by omega)
        refine ⟨r, Ev.bind ((l06Is_ev _ _ (by simp; omega) (by simp; omega) hlr).to hv) ?_, hr1, hr2⟩
        simp only [if_true]
        exact hr
      | false =>
        rcases hW with hW | hW
        · obtain ⟨r, hr, hr1, hr2⟩ := hgo W L a1 s1 hW (by omega) (by omega) (by omega) (by omega) (by omega)
          refine ⟨r, Ev.bind ((l06Is_ev _ _ (by simp; omega) (by simp; omega) hlr).to hv) ?_, hr1, hr2⟩
          simp only [Bool.false_eq_true, if_false]
          exact hr
        · exfalso
          rw [hW.1, hW.2, List.nil_append, List.nil_append] at hv
          have : VM [1 + v] [xs] = true := gm_vm (n := xs.length) ⟨rfl, fun w hw => by rw [List.mem_singleton.1 hw]; omega, fun r hr => by rw [List.mem_singleton.1 hr]; exact ⟨rfl, fun x hx' => by have := hb x hx'; omega⟩, by simp⟩ (by omega) (by simp; omega) (by simp; omega)
          rw [hv] at this
          cases this
    obtain ⟨r, hr, hr1, hr2⟩ := hit
    refine ⟨r, ?_, hr1, hr2⟩
    apply Ev.succ
    simp only [spec_l06DrawOk.l1, if_neg (show ¬ (i : Int) < n by omega), hp, Option.bind_some, own_eq W (show W.length ≤ 1048576 by omega), w64 (show (-9223372036854775808) ≤ 1 + v by omega) (by omega), if_pos (show W.length + ([1 + v] : List Int).length < 17592186044416 by simp; omega), List.nil_append, if_pos (show ([] : List (List Int)).length + L.length < 5864062014805 by simp; omega), if_pos (show L.length + ([xs] : List (List Int)).length < 5864062014805 by simp; omega), w64 (show (-9223372036854775808) ≤ e - 1 by omega) (by omega)]
    exact hr
  | succ d ih =>
    intro i xs a s hd hx hb h0 h1
    obtain ⟨v, a1, s1, hp, v0, v1, q0, q1⟩ := pick_ok c a s 5 hc h0 (by omega) (by omega)
    obtain ⟨r, hr, hr1, hr2⟩ := ih (i + 1) (xs ++ [v - 1]) a1 s1 (by omega) (by simp [hx]) (fun x hx' => by
      rcases List.mem_append.1 hx' with h | h
      · exact hb x h
      · rw [List.mem_singleton.1 h]; omega) (by omega) (by omega)
    refine ⟨r, ?_, hr1, hr2⟩
    apply Ev.succ
    simp only [spec_l06DrawOk.l1, if_pos (show (i : Int) < n by omega), hp, Option.bind_some, w64 (show (-9223372036854775808) ≤ v - 1 by omega) (by omega), if_pos (show xs.length + ([v - 1] : List Int).length < 17592186044416 by simp; omega), w64 (show (-9223372036854775808) ≤ (i : Int) + 1 by omega) (by omega)]
    exact hr
theorem mok_l0 (c : List Int) (hc : ∀ x ∈ c, 0 ≤ x ∧ x ≤ 255) (n : Int) (hn : 0 ≤ n ∧ n ≤ 3) : ∀ (e : Nat) (W : List Int) (L : List (List Int)) (a s : Int), e ≤ 4 → (VM W L = true ∨ (W = [] ∧ L = [] ∧ 1 ≤ e)) → 0 ≤ W.sum → W.sum + 6 * e ≤ 24 → W.length + e ≤ 4 → L.length + e ≤ 4 → 0 ≤ a → a ≤ 1000 - 10 * e → ∃ r : List Int × List (List Int) × Int × Int, Ev (fun k => spec_l06DrawOk.l0 k n (e : Int) c a s W L) r ∧ VM r.1 r.2.1 = true ∧ r.1.sum ≤ 24 := by
  intro e
  induction e with
  | zero =>
    intro W L a s _ hW _ hs _ _ _ _
    rcases hW with hW | hW
    · refine ⟨(W, L, a, s), ?_, hW, by show W.sum ≤ 24; omega⟩
      apply Ev.succ
      simp only [spec_l06DrawOk.l0, if_neg (show ¬ ((0 : Nat) : Int) > 0 by omega)]
      exact Ev.now _
    · omega
  | succ e ih =>
    intro W L a s he hW h0 hs hl1 hl2 a0 a1
    have q : ((e + 1 : Nat) : Int) - 1 = (e : Int) := by omega
    obtain ⟨r, hr, hr1, hr2⟩ := mok_l1 c hc n ((e + 1 : Nat) : Int) W L hn (by omega) (by rcases hW with h | h; exact .inl h; exact .inr ⟨h.1, h.2.1⟩) (by omega) (by
      intro W' L' a' s' hv k1 k2 k3 k4 k5
      rw [q] at k5 ⊢
      have hp : 0 ≤ W'.sum := by
        have := (sum_le_mem (fun w hw => ((vm_facts hv).2.2.2.2.1 w hw).1)).2
        omega
      exact ih W' L' a' s' (by omega) (.inl hv) hp (by omega) (by omega) (by omega) k4 k5) h0 n.toNat 0 [] a s (by omega) rfl (fun x hx => by simp at hx) a0 (by omega)
    refine ⟨r, ?_, hr1, hr2⟩
    apply Ev.succ
    simp only [spec_l06DrawOk.l0, if_pos (show ((e + 1 : Nat) : Int) > 0 by omega)]
    exact hr
theorem mok_ev (c : List Int) (hc : ∀ x ∈ c, 0 ≤ x ∧ x ≤ 255) : ∃ r : List Int × List (List Int) × Int × Int, Ev (fun k => spec_l06DrawOk.f k c 0 0) r ∧ VM r.1 r.2.1 = true ∧ r.1.sum ≤ 24 := by
  obtain ⟨den, nums, a1, s1, hd, d1, d2, d3, d4, d5, d6⟩ := dok_ev c hc 0 0 (by omega) (by omega)
  obtain ⟨b, a2, s2, hb, b0, b1⟩ := one_ok c a1 s1 2 hc (by omega) (by omega) (by omega)
  unfold spec_l06DrawOk.f
  cases b with
  | true =>
    obtain ⟨o, a3, s3, ho, o1, o2, o3, o4⟩ := dor_ev c hc nums.length d3 a2 s2 (by omega) (by omega)
    obtain ⟨r, hr, r1, r2⟩ := sys_ev o den nums nums.length d3 ⟨d1, d2⟩ rfl o1 o2 d4
    have q : VM r.1 r.2 = true := gm_vm r1 d3 (by omega) (by omega)
    refine ⟨(r.1, r.2, a3, s3), Ev.bind hd ?_, q, by show r.1.sum ≤ 24; omega⟩
    simp only [hb, Option.bind_some, if_true]
    refine Ev.bind ho (Ev.bind hr ?_)
    exact Ev.now _
  | false =>
    obtain ⟨v, a3, s3, hp, v0, v1, q0, q1⟩ := pick_ok c a2 s2 4 hc (by omega) (by omega) (by omega)
    obtain ⟨u, a4, s4, hu, u0, u1, p0, p1⟩ := pick_ok c a3 s3 4 hc (by omega) (by omega) (by omega)
    obtain ⟨m, hm⟩ := Int.eq_ofNat_of_zero_le u0
    obtain ⟨r, hr, r1, r2⟩ := mok_l0 c hc v (by omega) (m + 1) [] [] a4 s4 (by omega) (.inr ⟨rfl, rfl, by omega⟩) (by simp) (by simp; omega) (by simp; omega) (by simp; omega) (by omega) (by omega)
    refine ⟨r, Ev.bind hd ?_, r1, r2⟩
    simp only [hb, Option.bind_some, Bool.false_eq_true, if_false, hp, hu]
    rw [w64 (show (-9223372036854775808) ≤ 1 + u by omega) (by omega), show 1 + u = ((m + 1 : Nat) : Int) by omega]
    exact hr

/-! spec.R8Mixture -/
theorem r8m_ev (c : List Int) (hc : ∀ x ∈ c, 0 ≤ x ∧ x ≤ 255) : ∃ r : List Int × List (List Int), Ev (fun k => spec_R8Mixture.f k c) r ∧ VM r.1 r.2 = true ∧ r.1.sum ≤ 24 := by
  obtain ⟨r, hr, r1, r2⟩ := mok_ev c hc
  refine ⟨(r.1, r.2.1), ?_, r1, r2⟩
  unfold spec_R8Mixture.f
  simp only [spec_l00From.f, Option.bind_some]
  exact Ev.bind hr (Ev.now _)

/-! the law -/
theorem sm_l1 (t : Int) (xs : List Int) (g : Int) (hl : xs.length ≤ 1048576) (hg : g ≠ 0) : ∀ (d i : Nat), d + i = xs.length → Ev (fun k => spec_MixtureMeans.l1 k xs g i (wrap64 (Int.tdiv t g)) (mnum g (xs.take i))) (mres t xs g) := by
  intro d
  induction d with
  | zero =>
    intro i hd
    apply Ev.succ
    simp only [spec_MixtureMeans.l1, if_neg (show ¬ (i : Int) < (xs.length : Int) by omega)]
    rw [List.take_of_length_le (by omega)]
    refine Ev.bind (l01Is_ev _ _ (by simp [mnum]; omega)) ?_
    unfold mres
    cases VV (wrap64 (Int.tdiv t g)) (mnum g xs) with
    | true => simp only [if_true]; exact Ev.now _
    | false => simp only [Bool.false_eq_true, if_false]; exact Ev.now _
  | succ d ih =>
    intro i hd
    apply Ev.succ
    simp only [spec_MixtureMeans.l1, if_pos (show (i : Int) < (xs.length : Int) by omega), if_pos (show 0 ≤ (i : Int) by omega), if_neg hg, mrd, if_pos (show (mnum g (xs.take i)).length < 17592186044416 by simp [mnum]; omega), inc (show i < xs.length by omega) (by omega), mnum_succ g xs i (by omega)]
    exact ih (i + 1) (by omega)
theorem sm_l0 (t : Int) (xs : List Int) (hl : xs.length ≤ 1048576) (hx : ∀ x ∈ xs, -1000000000000 ≤ x ∧ x ≤ 1000000000000) : ∀ (d i : Nat) (g : Int), d + i = xs.length → 0 < g → Ev (fun k => spec_MixtureMeans.l0 k t xs g i) (mres t xs (gfold g (xs.drop i))) := by
  intro d
  induction d with
  | zero =>
    intro i g hd hg
    apply Ev.succ
    simp only [spec_MixtureMeans.l0, if_neg (show ¬ (i : Int) < (xs.length : Int) by omega), if_neg (show ¬ g = 0 by omega)]
    rw [List.drop_of_length_le (by omega)]
    have := sm_l1 t xs g hl (by omega) xs.length 0 (by omega)
    rwa [List.take_zero] at this
  | succ d ih =>
    intro i g hd hg
    have hi : i < xs.length := by omega
    have hm := hx _ (getD_mem (d := 0) hi)
    apply Ev.succ
    simp only [spec_MixtureMeans.l0, if_pos (show (i : Int) < (xs.length : Int) by omega), if_pos (show 0 ≤ (i : Int) by omega), mrd]
    refine Ev.bind (l06Gcd_ev (xs.getD i 0) g (by omega) (by omega) (by omega)) ?_
    simp only [inc hi (by omega)]
    have h := ih (i + 1) (Int.gcd g (xs.getD i 0) : Int) (by omega) (gcd_rng _ hg (Int.le_refl g)).1
    refine h.to ?_
    rw [List.drop_eq_getElem_cons hi, gfold_cons, List.getD_eq_getElem?_getD, List.getElem?_eq_getElem hi]
    rfl
theorem im2_l1 (t : Int) (xs : List Int) (g : Int) (hl : xs.length ≤ 1048576) (hg : g ≠ 0) : ∀ (d i : Nat), d + i = xs.length → Ev (fun k => impl_MixtureMeans.l1 k g xs (xs.length : Int) i (wrap64 (Int.tdiv t g)) (mnum g (xs.take i))) (mres t xs g) := by
  intro d
  induction d with
  | zero =>
    intro i hd
    apply Ev.succ
    simp only [impl_MixtureMeans.l1, if_neg (show ¬ (i : Int) < (xs.length : Int) by omega)]
    rw [List.take_of_length_le (by omega)]
    refine Ev.bind (validValues_ev _ _ (by simp [mnum]; omega)) ?_
    unfold mres
    cases VV (wrap64 (Int.tdiv t g)) (mnum g xs) with
    | true => simp only [if_true]; exact Ev.now _
    | false => simp only [Bool.false_eq_true, if_false]; exact Ev.now _
  | succ d ih =>
    intro i hd
    apply Ev.succ
    simp only [impl_MixtureMeans.l1, if_pos (show (i : Int) < (xs.length : Int) by omega), if_pos (show 0 ≤ (i : Int) by omega), if_neg hg, mrd, if_pos (show (mnum g (xs.take i)).length < 17592186044416 by simp [mnum]; omega), inc (show i < xs.length by omega) (by omega), mnum_succ g xs i (by omega)]
    exact ih (i + 1) (by omega)
theorem im2_l0 (t : Int) (xs : List Int) (hl : xs.length ≤ 1048576) (hx : ∀ x ∈ xs, -1000000000000 ≤ x ∧ x ≤ 1000000000000) : ∀ (d i : Nat) (g : Int), d + i = xs.length → 0 < g → g ≤ 1000000000000 → Ev (fun k => impl_MixtureMeans.l0 k xs g xs (xs.length : Int) i t) (mres t xs (gfold g (xs.drop i))) := by
  intro d
  induction d with
  | zero =>
    intro i g hd hg hg1
    apply Ev.succ
    simp only [impl_MixtureMeans.l0, if_neg (show ¬ (i : Int) < (xs.length : Int) by omega), if_neg (show ¬ g = 0 by omega)]
    rw [List.drop_of_length_le (by omega)]
    have := im2_l1 t xs g hl (by omega) xs.length 0 (by omega)
    rwa [List.take_zero] at this
  | succ d ih =>
    intro i g hd hg hg1
    have hi : i < xs.length := by omega
    have hm := hx _ (getD_mem (d := 0) hi)
    apply Ev.succ
    simp only [impl_MixtureMeans.l0, if_pos (show (i : Int) < (xs.length : Int) by omega), if_pos (show 0 ≤ (i : Int) by omega), mrd]
    refine Ev.bind (divisor_ev g (xs.getD i 0) (by omega) (by omega)) ?_
    simp only [inc hi (by omega)]
    have hr := gcd_rng (xs.getD i 0) hg hg1
    have h := ih (i + 1) (Int.gcd g (xs.getD i 0) : Int) (by omega) hr.1 hr.2
    refine h.to ?_
    rw [List.drop_eq_getElem_cons hi, gfold_cons, List.getD_eq_getElem?_getD, List.getElem?_eq_getElem hi]
    rfl
theorem rdl_w {xs : List (List Int)} {i : Nat} (h : i < xs.length) : rd_L1 xs (i : Int) = xs[i] := by
  unfold rd_L1; exact getD_get h
theorem sums_get {ls : List (List Int)} {i : Nat} (h : i < ls.length) : (ls.map (wsum 0)).getD i 0 = wsum 0 ls[i] := by
  rw [getD_map _ [] _ h]
  congr 1
  simp [List.getD_eq_getElem?_getD, h]
theorem index_l0 (l : List Int) (x : Int) (hl : l.length ≤ 1048576) : ∀ (d i : Nat), i + d = l.length → (∃ j, i ≤ j ∧ j < l.length ∧ l.getD j 0 = x) → ∃ j, j < l.length ∧ l.getD j 0 = x ∧ Ev (fun k => slices_Index_int64_int64.l0 k l x (l.length : Int) (i : Int)) (j : Int) := by
  intro d
  induction d with
  | zero => rintro i hi ⟨j, h1, h2, _⟩; omega
  | succ d ih =>
    rintro i hi ⟨j, h1, h2, h3⟩
    have hi' : i < l.length := by omega
    by_cases c : l.getD i 0 = x
    · refine ⟨i, hi', c, ?_⟩
      apply Ev.succ
      simp only [slices_Index_int64_int64.l0, if_pos (show (i : Int) < (l.length : Int) by omega), if_pos (show 0 ≤ (i : Int) by omega), if_pos (show x = rd l (i : Int) by rw [← c]; unfold rd; simp)]
      exact Ev.now _
    · obtain ⟨j', a, b, e⟩ := ih (i + 1) (by omega) ⟨j, by
        rcases Nat.lt_or_eq_of_le h1 with h | h
        · omega
        · subst h; exact absurd h3 c, h2, h3⟩
      refine ⟨j', a, b, ?_⟩
      apply Ev.succ
      simp only [slices_Index_int64_int64.l0, if_pos (show (i : Int) < (l.length : Int) by omega), if_pos (show 0 ≤ (i : Int) by omega), if_neg (show ¬ x = rd l (i : Int) by
        intro e; apply c; rw [e]; unfold rd; simp), inc hi' (by omega)]
      exact e
theorem index_ev {l : List Int} {x : Int} (hl : l.length ≤ 1048576) (h : x ∈ l) : ∃ j, j < l.length ∧ l.getD j 0 = x ∧ Ev (fun k => slices_Index_int64_int64.f k l x) (j : Int) := by
  obtain ⟨j, h1, h2⟩ := mem_getD h
  obtain ⟨j', a, b, e⟩ := index_l0 l x hl l.length 0 (by omega) ⟨j, by omega, h1, h2⟩
  refine ⟨j', a, b, ?_⟩
  unfold slices_Index_int64_int64.f
  exact e
theorem rdN (l : List Int) (j : Nat) : rd l (j : Int) = l.getD j 0 := by unfold rd; simp
/-- The program's loop. -/
theorem isw_l0 (W : List Int) (ls : List (List Int)) (hl : ls.length ≤ 1048576) (hr : ∀ r ∈ ls, r.length ≤ 1048576) (hW : ls.length ≤ W.length) : ∀ (d i : Nat), i + d = ls.length →
    Ev (fun k => impl_SumWeights.l0 k (KEYS ls) (WAT W (ls.map (wsum 0)) (KEYS ls) i) ls (ls.length : Int) (i : Int) W ls) (KEYS ls, WAT W (ls.map (wsum 0)) (KEYS ls) ls.length, true) := by
  have hkl := keys_length ls
  intro d
  induction d with
  | zero =>
    intro i hi
    obtain rfl : i = ls.length := by omega
    apply Ev.succ
    simp only [impl_SumWeights.l0, if_neg (show ¬ (ls.length : Int) < (ls.length : Int) by omega)]
    exact Ev.now _
  | succ d ih =>
    intro i hi
    have hi' : i < ls.length := by omega
    have hm : wsum 0 ls[i] ∈ KEYS ls := keys_mem.2 (List.mem_map.2 ⟨ls[i], List.getElem_mem hi', rfl⟩)
    obtain ⟨j, hj, ej, hev⟩ := index_ev (by omega) hm
    have hst := wat_step (W := W) (S := ls.map (wsum 0)) (k := i) (keys_rise ls) hj (by rw [sums_get hi']; exact ej)
    apply Ev.succ
    simp only [impl_SumWeights.l0, if_pos (show (i : Int) < (ls.length : Int) by omega), if_pos (show 0 ≤ (i : Int) by omega), rdl_w hi']
    refine Ev.bind (isum_ev ls[i] (by have := hr _ (List.getElem_mem hi'); omega)) (Ev.bind hev ?_)
    simp only [if_pos (show 0 ≤ (j : Int) by omega), wat_length, if_pos (show (j : Int) < ((KEYS ls).length : Int) by omega), if_pos (show (i : Int) < (W.length : Int) by omega), rdN, wat_get hj, Int.toNat_natCast, hst, inc hi' (by omega)]
    exact ih (i + 1) (by omega)
theorem vm_ps {ws : List Int} {ls : List (List Int)} (h : VM ws ls = true) : wsum 0 ws = ws.sum ∧ (∀ i, i ≤ ws.length → 0 ≤ psum ws i ∧ psum ws i ≤ 1000000) ∧ ∀ d i, i + d ≤ ws.length → psum ws i ≤ psum ws (i + d) := by
  obtain ⟨f1, f2, f3, f4, f5, f6, f7⟩ := vm_facts h
  have hs : wsum 0 ws = ws.sum := by
    rw [wsum_eq 1000000 ws 0 (fun x hx => by have := f5 x hx; omega) (by omega) (by omega) (by omega)]; omega
  have hmono := psum_mono ws (fun w hw' => (f5 w hw').1)
  have hall := psum_all ws
  have hz := psum_zero ws
  rw [hs] at f7
  refine ⟨hs, ?_, hmono⟩
  intro i hi
  have a := hmono i 0 (by omega)
  have b := hmono (ws.length - i) i (by omega)
  rw [Nat.zero_add, hz] at a
  rw [show i + (ws.length - i) = ws.length by omega, hall] at b
  omega
theorem vm_rows {ws : List Int} {ls : List (List Int)} (h : VM ws ls = true) : ∀ r ∈ ls, r.length ≤ 1048576 := by
  obtain ⟨f1, f2, f3, f4, f5, f6, f7⟩ := vm_facts h
  intro r hr
  obtain ⟨j, hj, rfl⟩ := List.getElem_of_mem hr
  have := (f6 j hj).1
  rw [show ls.getD j [] = ls[j] by simp [List.getD_eq_getElem?_getD, hj]] at this
  omega
theorem vm_MB {ws : List Int} {ls : List (List Int)} (h : VM ws ls = true) : MB ws ls := by
  obtain ⟨f1, f2, f3, f4, f5, f6, f7⟩ := vm_facts h
  exact ⟨f3, fun w hw' => (f5 w hw').1, fun i hi => ((vm_ps h).2.1 i hi).2, fun i hi => (f6 i hi).2⟩
theorem mm_val {ws : List Int} {ls : List (List Int)} (h : VM ws ls = true) (hpos : 1 ≤ ws.sum) : Ev (fun k => spec_MixtureMeans.f k ws ls) (mres ws.sum (mtot ws ls) (gfold ws.sum (mtot ws ls))) ∧ Ev (fun k => impl_MixtureMeans.f k ws ls) (mres ws.sum (mtot ws ls) (gfold ws.sum (mtot ws ls))) := by
  obtain ⟨f1, f2, f3, f4, f5, f6, f7⟩ := vm_facts h
  obtain ⟨hs, hps, hmono⟩ := vm_ps h
  have hr := vm_rows h
  have hsum := (hps ws.length (Nat.le_refl _)).2
  rw [psum_all] at hsum
  have hMB := vm_MB h
  have hn : ∀ i, i < ls.length → (ls.getD i []).length = (ls.headD []).length := fun i hi => (f6 i hi).1
  have hlen : (mtot ws ls).length ≤ 1048576 := by rw [mtot_length]; omega
  have hb := mtot_bnd hMB
  unfold spec_MixtureMeans.f impl_MixtureMeans.f
  refine ⟨Ev.bind ((l06Is_ev ws ls (by omega) (by omega) hr).to h) ?_, Ev.bind ((iVM_ev ws ls (by omega) (by omega) hr).to h) ?_⟩
  · simp only [if_true]
    refine Ev.bind ((ssum_ev ws (by omega)).to hs) (Ev.bind (l06Sums_ev ws ls hMB (by omega) (by omega) hn (by omega)) ?_)
    have := sm_l0 ws.sum (mtot ws ls) hlen hb (mtot ws ls).length 0 ws.sum (by omega) (by omega)
    rwa [List.drop_zero] at this
  · simp only [if_true]
    refine Ev.bind (totals_ev ws ls hMB (by omega) (by omega) hn (by omega)) (Ev.bind ((isum_ev ws (by omega)).to hs) ?_)
    have := im2_l0 ws.sum (mtot ws ls) hlen hb (mtot ws ls).length 0 ws.sum (by omega) (by omega) (by omega)
    rwa [List.drop_zero] at this
theorem sw_val {W : List Int} {ls : List (List Int)} (h : VM W ls = true) : Ev (fun k => impl_SumWeights.f k W ls) (KEYS ls, WAT W (ls.map (wsum 0)) (KEYS ls) ls.length, true) := by
  obtain ⟨f1, f2, f3, f4, f5, f6, f7⟩ := vm_facts h
  have hr := vm_rows h
  have hl : ls.length ≤ 1048576 := by omega
  have hkl := keys_length ls
  unfold impl_SumWeights.f
  refine Ev.bind ((iVM_ev W ls (by omega) hl hr).to h) ?_
  simp only [if_true]
  have hs : 0 < (ls.map (wsum 0)).length := by rw [List.length_map]; omega
  have hs2 : 0 < (SORT (ls.map (wsum 0))).length := by rw [sort_length]; exact hs
  refine Ev.bind (sums_ev ls hl hr) ?_
  rw [sort_eq hs (by rw [List.length_map]; omega)]
  simp only [Option.bind_some, compact_eq hs2]
  have := isw_l0 W ls hl hr (by omega) ls.length 0 (by omega)
  rw [wat_zero] at this
  have e : Go.Lib.compact (SORT (ls.map (wsum 0))) = KEYS ls := rfl
  simp only [e, if_pos (show 0 ≤ ((KEYS ls).length : Int) by omega), Int.toNat_natCast, if_pos (show (KEYS ls).length ≤ 35184372088832 by omega)]
  exact this
theorem r8w_l0 (l : List Int) (hl : l.length ≤ 1048576) : ∀ (d i : Nat), d + i = l.length → Ev (fun k => laws_r8Sum.l0 k l (wsum 0 (l.take i)) i) (wsum 0 l) := by
  intro d
  induction d with
  | zero =>
    intro i hd
    apply Ev.succ
    simp only [laws_r8Sum.l0, if_neg (show ¬ (i : Int) < l.length by omega)]
    rw [List.take_of_length_le (by omega)]
    exact Ev.now _
  | succ d ih =>
    intro i hd
    have hi : i < l.length := by omega
    apply Ev.succ
    simp only [laws_r8Sum.l0, if_pos (show (i : Int) < l.length by omega), if_pos (show 0 ≤ (i : Int) by omega), mrd, take_wsum l i hi, inc hi (by omega)]
    exact ih (i + 1) (by omega)
theorem r8w_ev (l : List Int) (hl : l.length ≤ 1048576) : Ev (fun k => laws_r8Sum.f k l) (wsum 0 l) := r8w_l0 l hl l.length 0 (by omega)
-- sums over keys
theorem one_key (f : Int → Int) (s w : Int) : ∀ l : List Int, l.Pairwise (· < ·) → s ∈ l → (l.map fun key => f key * (if s = key then w else 0)).sum = f s * w
  | [], _, h => by simp at h
  | x :: l, hp, h => by
    have hx := List.pairwise_cons.1 hp
    rw [List.map_cons, List.sum_cons]
    by_cases c : s = x
    · subst c
      have z : ∀ l' : List Int, (∀ y ∈ l', s < y) → (l'.map fun key => f key * (if s = key then w else 0)).sum = 0 := by
        intro l'
        induction l' with
        | nil => intro _; rfl
        | cons y l' ih =>
          intro hy
          have := hy y List.mem_cons_self
          rw [List.map_cons, List.sum_cons, ih (fun z hz => hy z (List.mem_cons_of_mem _ hz)), if_neg (show ¬ s = y by omega)]
          simp
      rw [z l hx.1, if_pos rfl, Int.add_zero]
    · rw [if_neg c, Int.mul_zero, Int.zero_add]
      exact one_key f s w l hx.2 ((List.mem_cons.1 h).resolve_left c)
theorem map_add (l : List Int) (f g : Int → Int) : (l.map fun x => f x + g x).sum = (l.map f).sum + (l.map g).sum := by
  induction l with
  | nil => rfl
  | cons x l ih => simp only [List.map_cons, List.sum_cons, ih]; omega
theorem wat_rng {W S : List Int} (key : Int) (hw : ∀ w ∈ W, 1 ≤ w) (hs : ∀ i, i ≤ W.length → psum W i ≤ 1000000) : ∀ k, k ≤ W.length → 0 ≤ wat W S key k ∧ wat W S key k ≤ psum W k
  | 0, _ => by simp [wat, psum_zero]
  | k + 1, h => by
    have := wat_rng (S := S) key hw hs k (by omega)
    have e := psum_succ W k (by omega)
    have q := hw (W.getD k 0) (getD_mem (by omega))
    have q2 := hs (k + 1) h
    simp only [wat]
    split
    · rw [w64 (by omega) (by omega)]; omega
    · omega
/-- The sum of f times the weight over keys is that over the lists. -/
theorem wat_sum {W S keys : List Int} (f : Int → Int) (hw : ∀ w ∈ W, 1 ≤ w) (hs : ∀ i, i ≤ W.length → psum W i ≤ 1000000) (hp : keys.Pairwise (· < ·)) (hk : ∀ k, k < W.length → S.getD k 0 ∈ keys) : ∀ k, k ≤ W.length → (keys.map fun key => f key * wat W S key k).sum = ((List.range k).map fun q => f (S.getD q 0) * W.getD q 0).sum
  | 0, _ => by
    have : ∀ l : List Int, (l.map fun key => f key * wat W S key 0).sum = 0 := by
      intro l
      induction l with
      | nil => rfl
      | cons x l ih => rw [List.map_cons, List.sum_cons, ih]; simp [wat]
    rw [this]; rfl
  | k + 1, h => by
    have ih := wat_sum (S := S) f hw hs hp hk k (by omega)
    have e : ∀ key : Int, f key * wat W S key (k + 1) = f key * wat W S key k + f key * (if S.getD k 0 = key then W.getD k 0 else 0) := by
      intro key
      have b := wat_rng (S := S) key hw hs k (by omega)
      have e := psum_succ W k (by omega)
      have q := hw (W.getD k 0) (getD_mem (by omega))
      have q2 := hs (k + 1) h
      simp only [wat]
      by_cases c : S.getD k 0 = key
      · rw [if_pos c, if_pos c, w64 (by omega) (by omega), Int.mul_add]
      · rw [if_neg c, if_neg c, Int.mul_zero, Int.add_zero]
    simp only [e]
    rw [map_add keys (fun key => f key * wat W S key k) (fun key => f key * (if S.getD k 0 = key then W.getD k 0 else 0)), ih, one_key f (S.getD k 0) (W.getD k 0) keys hp (hk k (by omega)), List.range_succ, List.map_append, List.sum_append]
    simp
theorem range_sum : ∀ (l : List Int), ((List.range l.length).map fun i => l.getD i 0).sum = l.sum
  | [] => rfl
  | x :: l => by
    rw [List.length_cons, List.range_succ_eq_map, List.map_cons, List.sum_cons, List.map_map, List.sum_cons]
    have := range_sum l
    simp only [Function.comp_def, List.getD_cons_succ, List.getD_cons_zero]
    rw [this]
theorem map_mul (l : List Nat) (c : Int) (f : Nat → Int) : (l.map fun i => c * f i).sum = c * (l.map f).sum := by
  induction l with
  | nil => simp
  | cons x l ih => simp only [List.map_cons, List.sum_cons, ih, Int.mul_add]
theorem map_addN (l : List Nat) (f g : Nat → Int) : (l.map fun x => f x + g x).sum = (l.map f).sum + (l.map g).sum := by
  induction l with
  | nil => rfl
  | cons x l ih => simp only [List.map_cons, List.sum_cons, ih]; omega
theorem tot_swap (W : List Int) (L : List (List Int)) (n : Nat) (hn : ∀ q, q < L.length → (L.getD q []).length = n) : ∀ k, k ≤ L.length → ((List.range n).map (mcol W L k)).sum = ((List.range k).map fun q => (L.getD q []).sum * W.getD q 0).sum
  | 0, _ => by
    have : ∀ l : List Nat, (l.map (mcol W L 0)).sum = 0 := by
      intro l
      induction l with
      | nil => rfl
      | cons x l ih => rw [List.map_cons, List.sum_cons, ih]; simp [mcol]
    rw [this]; rfl
  | k + 1, h => by
    have ih := tot_swap W L n hn k (by omega)
    have e : (List.range n).map (mcol W L (k + 1)) = (List.range n).map fun i => mcol W L k i + W.getD k 0 * (L.getD k []).getD i 0 := List.map_congr_left fun i _ => mcol_succ W L k i
    rw [e, map_addN, ih, map_mul, List.range_succ, List.map_append, List.sum_append, ← hn k (by omega), range_sum]
    simp [Int.mul_comm]
theorem gfold_dvd : ∀ (l : List Int) (g : Int), gfold g l ∣ g ∧ ∀ x ∈ l, gfold g l ∣ x
  | [], g => ⟨Int.dvd_refl _, fun _ h => by simp at h⟩
  | x :: l, g => by
    have := gfold_dvd l (Int.gcd g x : Int)
    rw [gfold_cons]
    refine ⟨Int.dvd_trans this.1 (Int.gcd_dvd_left g x), fun y hy => ?_⟩
    rcases List.mem_cons.1 hy with rfl | hy
    · exact Int.dvd_trans this.1 (Int.gcd_dvd_right g y)
    · exact this.2 y hy
theorem tdiv_mul {g x : Int} (h : g ∣ x) : x.tdiv g * g = x := Int.tdiv_mul_cancel h
theorem fm_l2 {ws : List Int} {ls : List (List Int)} (h : VM ws ls = true) (i : Nat) (hi : i < (ls.headD []).length) (T den : Int) (nums : List Int) {s : Bool} (hs : Ev (fun k => laws_FnMeans.l2 k T (i : Int) (mcol ws ls ls.length i) (ls.length : Int) ws ls den nums) s) :
    ∀ (d q : Nat), d + q = ls.length → Ev (fun k => laws_FnMeans.l2 k T (i : Int) (mcol ws ls q i) (q : Int) ws ls den nums) s := by
  obtain ⟨f1, f2, f3, f4, f5, f6, f7⟩ := vm_facts h
  intro d
  induction d with
  | zero => intro q hq; rw [show q = ls.length by omega]; exact hs
  | succ d ih =>
    intro q hq
    have hql : q < ls.length := by omega
    have g := (f6 q hql).1
    have e0 : rd_L1 ls (q : Int) = ls.getD q [] := by unfold rd_L1; simp
    apply Ev.succ
    simp only [laws_FnMeans.l2, if_pos (show (q : Int) < (ls.length : Int) by omega), if_pos (show 0 ≤ (q : Int) by omega), if_pos (show (q : Int) < (ws.length : Int) by omega), if_pos (show 0 ≤ (i : Int) by omega), e0, if_pos (show (i : Int) < ((ls.getD q []).length : Int) by omega), mrd, mb_wrap (vm_MB h) q i hql, inc hql (by omega)]
    exact ih (q + 1) (by omega)
theorem fm_l1 {ws : List Int} {ls : List (List Int)} (h : VM ws ls = true) (T den : Int) (nums : List Int) (hT : 1 ≤ T ∧ T ≤ 24) (hd : 1 ≤ den ∧ den ≤ 1000) (hn : nums.length = (ls.headD []).length) (hb : ∀ x ∈ nums, -1000000 ≤ x ∧ x ≤ 1000000) (hm : ∀ i, i < nums.length → mcol ws ls ls.length i * den = nums.getD i 0 * T) (hc : ∀ i, -24000000 ≤ mcol ws ls ls.length i ∧ mcol ws ls ls.length i ≤ 24000000) :
    ∀ (d i : Nat), d + i = nums.length → Ev (fun k => laws_FnMeans.l1 k T (i : Int) ws ls den nums) true := by
  have f4 := (vm_facts h).2.2.2.1
  intro d
  induction d with
  | zero =>
    intro i hi
    apply Ev.succ
    simp only [laws_FnMeans.l1, if_neg (show ¬ (i : Int) < (nums.length : Int) by omega)]
    exact Ev.now _
  | succ d ih =>
    intro i hi
    have hil : i < nums.length := by omega
    have b := hb (nums.getD i 0) (getD_mem hil)
    have p := mprod (w := T) (x := nums.getD i 0) (B := 1000000) hT.1 b.1 b.2
    rw [Int.mul_comm T] at p
    have e := hm i hil
    have w1 : wrap64 (mcol ws ls ls.length i * den) = mcol ws ls ls.length i * den := by rw [e]; exact w64 (by omega) (by omega)
    have w2 : wrap64 (nums.getD i 0 * T) = nums.getD i 0 * T := w64 (by omega) (by omega)
    apply Ev.succ
    simp only [laws_FnMeans.l1, if_pos (show (i : Int) < (nums.length : Int) by omega)]
    have z : mcol ws ls 0 i = 0 := by simp [mcol]
    have k2 := fm_l2 h i (by omega) T den nums (s := true) (by
      apply Ev.succ
      simp only [laws_FnMeans.l2, if_neg (show ¬ (ls.length : Int) < (ls.length : Int) by omega), if_pos (show 0 ≤ (i : Int) by omega), if_pos (show (i : Int) < (nums.length : Int) by omega), mrd, w1, w2, if_pos e, inc hil (by omega)]
      exact ih (i + 1) (by omega)) ls.length 0 (by omega)
    rw [z] at k2
    exact k2
theorem fm_l0 (one : Bool) (keys wt : List Int) (T den : Int) (nums ws : List Int) (ls : List (List Int)) (hk : keys.length = wt.length) (hl : keys.length ≤ 64) (hp : keys.Pairwise (· < ·)) (hb : ∀ i, i < keys.length → -1000000000 ≤ keys.getD i 0 * wt.getD i 0 ∧ keys.getD i 0 * wt.getD i 0 ≤ 1000000000) {s : Bool}
    (hs : Ev (fun k => laws_FnMeans.l0 k one keys wt T (((List.range keys.length).map fun i => keys.getD i 0 * wt.getD i 0).sum) (keys.length : Int) ws ls den nums) s) :
    ∀ (d i : Nat), d + i = keys.length → -(1000000000 * i) ≤ ((List.range i).map fun i => keys.getD i 0 * wt.getD i 0).sum → ((List.range i).map fun i => keys.getD i 0 * wt.getD i 0).sum ≤ 1000000000 * i → Ev (fun k => laws_FnMeans.l0 k one keys wt T (((List.range i).map fun i => keys.getD i 0 * wt.getD i 0).sum) (i : Int) ws ls den nums) s := by
  intro d
  induction d with
  | zero => intro i hi _ _; rw [show i = keys.length by omega]; exact hs
  | succ d ih =>
    intro i hi h0 h1
    have hil : i < keys.length := by omega
    have b := hb i hil
    have e : ((List.range (i + 1)).map fun i => keys.getD i 0 * wt.getD i 0).sum = ((List.range i).map fun i => keys.getD i 0 * wt.getD i 0).sum + keys.getD i 0 * wt.getD i 0 := by
      rw [List.range_succ, List.map_append, List.sum_append]; simp
    have h := ih (i + 1) (by omega) (by rw [e]; omega) (by rw [e]; omega)
    rw [e] at h
    apply Ev.succ
    simp only [laws_FnMeans.l0, if_pos (show (i : Int) < (keys.length : Int) by omega), if_pos (show 0 ≤ (i : Int) by omega), if_pos (show (i : Int) < (wt.length : Int) by omega), mrd, w64 (show (-9223372036854775808) ≤ keys.getD i 0 * wt.getD i 0 by omega) (by omega), w64 (show (-9223372036854775808) ≤ ((List.range i).map fun i => keys.getD i 0 * wt.getD i 0).sum + keys.getD i 0 * wt.getD i 0 by omega) (by omega), inc hil (by omega)]
    by_cases c : (i : Int) > 0
    · obtain ⟨j, rfl⟩ : ∃ j, i = j + 1 := ⟨i - 1, by omega⟩
      have q : wrap64 (((j + 1 : Nat) : Int) - 1) = (j : Int) := by rw [w64 (by omega) (by omega)]; omega
      have lt : keys.getD j 0 < keys.getD (j + 1) 0 := by
        have := List.pairwise_iff_getElem.1 hp j (j + 1) (by omega) hil (by omega)
        simpa [List.getD_eq_getElem?_getD, hil, show j < keys.length by omega] using this
      simp only [if_pos c, q, if_pos (show 0 ≤ (j : Int) by omega), if_pos (show (j : Int) < (keys.length : Int) by omega), mrd, if_neg (show ¬ keys.getD (j + 1) 0 ≤ keys.getD j 0 by omega)]
      exact h
    · simp only [if_neg c]
      exact h
theorem vv_facts {den : Int} {vs : List Int} (h : VV den vs = true) : 1 ≤ den ∧ den ≤ 1000 ∧ vs.length ≤ 40 ∧ ∀ x ∈ vs, -1000000 ≤ x ∧ x ≤ 1000000 := by
  simp only [VV, Bool.and_eq_true, decide_eq_true_eq, List.all_eq_true] at h
  exact ⟨h.1.1, h.1.2, h.2.1, h.2.2⟩
theorem mul_cancel3 {t d g x y : Int} (hg : g ≠ 0) (h1 : d * g = t) (h2 : y * g = x) : x * d = y * t := by
  rw [← h1, ← h2, Int.mul_assoc, Int.mul_comm g d]
theorem sum_div (g : Int) : ∀ l : List Int, (∀ x ∈ l, g ∣ x) → (l.map fun x => x.tdiv g).sum * g = l.sum
  | [], _ => by simp
  | x :: l, h => by
    rw [List.map_cons, List.sum_cons, Int.add_mul, tdiv_mul (h x List.mem_cons_self), sum_div g l (fun y hy => h y (List.mem_cons_of_mem _ hy)), List.sum_cons]
theorem FnMeans : laws_FnMeans.Pure := by
  intro c m hc1 _ hc2 hm1 _ hm2
  apply Ev.rounds
  have hc : ∀ x ∈ c, 0 ≤ x ∧ x ≤ 255 := fun x hx => wfByte (hc2 x hx)
  unfold laws_FnMeans.f laws_r8Long.f
  by_cases c0 : (c.length : Int) > 48 ∨ (m.length : Int) > 48
  · rcases c0 with c0 | c0
    · simp only [if_pos c0, Option.bind_some, if_true]
      exact Ev.now _
    · by_cases c1 : (c.length : Int) > 48
      · simp only [if_pos c1, Option.bind_some, if_true]
        exact Ev.now _
      · simp only [if_neg c1, decide_eq_true c0, Option.bind_some, if_true]
        exact Ev.now _
  · simp only [if_neg (show ¬ (c.length : Int) > 48 by omega), decide_eq_false (show ¬ (m.length : Int) > 48 by omega), Option.bind_some, Bool.false_eq_true, if_false]
    obtain ⟨⟨ws, ls⟩, hr, hv, hT⟩ := r8m_ev c hc
    simp only at hv hT
    obtain ⟨f1, f2, f3, f4, f5, f6, f7⟩ := vm_facts hv
    obtain ⟨e1, hps, hmono⟩ := vm_ps hv
    have hMB := vm_MB hv
    have hw1 : ∀ w ∈ ws, 1 ≤ w := fun w hw => (f5 w hw).1
    have hpos : 1 ≤ ws.sum := by
      have := (sum_le_mem hw1).2
      omega
    have hkl := keys_length ls
    have hkp := keys_rise ls
    obtain ⟨hsp, him⟩ := mm_val hv hpos
    have hKW : (KEYS ls).length = (WAT ws (ls.map (wsum 0)) (KEYS ls) ls.length).length := (wat_length _ _ _ _).symm
    have hSg : ∀ q, q < ls.length → (ls.map (wsum 0)).getD q 0 = wsum 0 (ls.getD q []) := fun q hq => getD_map (wsum 0) [] 0 hq
    have hwrow : ∀ q, q < ls.length → wsum 0 (ls.getD q []) = (ls.getD q []).sum ∧ -40000000 ≤ (ls.getD q []).sum ∧ (ls.getD q []).sum ≤ 40000000 := by
      intro q hq
      have a := f6 q hq
      have b := sum_bounds 1000000 _ a.2
      refine ⟨?_, by omega, by omega⟩
      rw [wsum_eq 1000000 _ 0 a.2 (by omega) (by omega) (by omega)]; omega
    have hmem : ∀ q, q < ws.length → (ls.map (wsum 0)).getD q 0 ∈ KEYS ls := fun q hq => keys_mem.2 (getD_mem (by rw [List.length_map]; omega))
    have hne : 1 ≤ (KEYS ls).length := by
      have := hmem 0 (by omega)
      cases hK : KEYS ls with
      | nil => rw [hK] at this; simp at this
      | cons a l => simp
    have hps' : ∀ i, i ≤ ws.length → psum ws i ≤ 1000000 := fun i hi => (hps i hi).2
    have hwr : ∀ key, 0 ≤ wat ws (ls.map (wsum 0)) key ls.length ∧ wat ws (ls.map (wsum 0)) key ls.length ≤ 24 := by
      intro key
      have := wat_rng (S := ls.map (wsum 0)) key hw1 hps' ls.length (by omega)
      rw [← f3, psum_all] at this
      rw [← f3]
      omega
    have hkr : ∀ i, i < (KEYS ls).length → -40000000 ≤ (KEYS ls).getD i 0 ∧ (KEYS ls).getD i 0 ≤ 40000000 := by
      intro i hi
      have := keys_mem.1 (getD_mem (d := (0 : Int)) hi)
      obtain ⟨r, hr', e⟩ := List.mem_map.1 this
      obtain ⟨q, hq, rfl⟩ := List.getElem_of_mem hr'
      have a := hwrow q hq
      rw [show ls.getD q [] = ls[q] by simp [List.getD_eq_getElem?_getD, hq]] at a
      omega
    -- the sum of the weights
    have hWs : wsum 0 (WAT ws (ls.map (wsum 0)) (KEYS ls) ls.length) = ws.sum := by
      rw [wsum_eq 24 _ 0 (fun x hx => by
        obtain ⟨key, _, rfl⟩ := List.mem_map.1 hx
        have := hwr key
        omega) (by omega) (by rw [wat_length]; omega) (by rw [wat_length]; omega), Int.zero_add]
      have := wat_sum (S := ls.map (wsum 0)) (keys := KEYS ls) (fun _ => 1) hw1 hps' hkp hmem ws.length (Nat.le_refl _)
      simp only [Int.one_mul] at this
      rw [range_sum] at this
      rw [f3] at this
      exact this
    -- the sum of all
    have hall : ((List.range (KEYS ls).length).map fun i => (KEYS ls).getD i 0 * (WAT ws (ls.map (wsum 0)) (KEYS ls) ls.length).getD i 0).sum = (mtot ws ls).sum := by
      have e2 : ((List.range (KEYS ls).length).map fun i => (KEYS ls).getD i 0 * (WAT ws (ls.map (wsum 0)) (KEYS ls) ls.length).getD i 0) = (KEYS ls).map fun key => key * wat ws (ls.map (wsum 0)) key ls.length := by
        apply List.ext_getElem
        · simp
        · intro i h1 h2
          have hi : i < (KEYS ls).length := by simpa using h2
          simp only [List.getElem_map, List.getElem_range]
          rw [wat_get hi, getD_some hi]
      have := wat_sum (S := ls.map (wsum 0)) (keys := KEYS ls) (fun x => x) hw1 hps' hkp hmem ws.length (Nat.le_refl _)
      rw [e2, ← f3, this]
      have sw := tot_swap ws ls (ls.headD []).length (fun q hq => (f6 q hq).1) ls.length (Nat.le_refl _)
      unfold mtot
      rw [sw, ← f3]
      refine congrArg List.sum (List.map_congr_left fun q hq => ?_)
      have hq' : q < ls.length := by have := List.mem_range.1 hq; omega
      rw [hSg q hq', (hwrow q hq').1]
    have hTs : Ev (fun k => laws_r8Sum.f k ws) ws.sum := (r8w_ev ws (by omega)).to e1
    refine Ev.bind hr (Ev.bind him (Ev.bind (sw_val hv) (Ev.bind hTs (Ev.bind hsp ?_))))
    have hb2 : ∀ b : Bool, (b != b) = false := fun b => by cases b <;> rfl
    simp only [hb2, Bool.false_eq_true, if_false, if_true, ← hKW, if_neg (show ¬ ((KEYS ls).length : Int) = 0 by omega)]
    refine Ev.bind ((r8w_ev _ (by rw [wat_length]; omega)).to hWs) ?_
    simp only [bne_self_eq_false]
    apply Ev.succ
    simp only [laws_FnMeans.j0, Bool.false_eq_true, if_false]
    have hg := gfold_rng (m := 1000000) (mtot ws ls) ws.sum (by omega) (by omega)
    have hgd := gfold_dvd (mtot ws ls) ws.sum
    have hd0 : rd_L1 ls 0 = ls.headD [] := by unfold rd_L1; cases ls <;> rfl
    refine fm_l0 _ (KEYS ls) _ ws.sum _ _ ws ls hKW (by omega) hkp (fun i hi => ?_) ?_ (KEYS ls).length 0 (by omega) (by simp) (by simp)
    · rw [wat_get hi]
      have a := hkr i hi
      have b := hwr ((KEYS ls).getD i 0)
      have h1 : (KEYS ls).getD i 0 * wat ws (ls.map (wsum 0)) ((KEYS ls).getD i 0) ls.length ≤ 40000000 * wat ws (ls.map (wsum 0)) ((KEYS ls).getD i 0) ls.length := Int.mul_le_mul_of_nonneg_right a.2 b.1
      have h2 : -40000000 * wat ws (ls.map (wsum 0)) ((KEYS ls).getD i 0) ls.length ≤ (KEYS ls).getD i 0 * wat ws (ls.map (wsum 0)) ((KEYS ls).getD i 0) ls.length := Int.mul_le_mul_of_nonneg_right a.1 b.1
      omega
    · rw [hall]
      apply Ev.succ
      simp only [laws_FnMeans.l0, if_neg (show ¬ ((KEYS ls).length : Int) < ((KEYS ls).length : Int) by omega)]
      unfold mres
      cases hV : VV (wrap64 (Int.tdiv ws.sum (gfold ws.sum (mtot ws ls)))) (mnum (gfold ws.sum (mtot ws ls)) (mtot ws ls)) with
      | false =>
        simp only [Bool.false_eq_true, if_false]
        exact Ev.now _
      | true =>
        obtain ⟨v1, v2, v3, v4⟩ := vv_facts hV
        have hxb := mtot_bnd hMB
        have hml : (mnum (gfold ws.sum (mtot ws ls)) (mtot ws ls)).length = (ls.headD []).length := by simp [mnum, mtot_length]
        have d1 : wrap64 (Int.tdiv ws.sum (gfold ws.sum (mtot ws ls))) = Int.tdiv ws.sum (gfold ws.sum (mtot ws ls)) := by
          have := tdiv_range (a := ws.sum) (b := gfold ws.sum (mtot ws ls)) (m := 100) hg.1 (by omega) (by omega) (by omega)
          exact w64 (by omega) (by omega)
        have d2 : mnum (gfold ws.sum (mtot ws ls)) (mtot ws ls) = (mtot ws ls).map fun x => x.tdiv (gfold ws.sum (mtot ws ls)) := by
          unfold mnum
          refine List.map_congr_left fun x hx => ?_
          have b := hxb x hx
          have := tdiv_range (a := x) (b := gfold ws.sum (mtot ws ls)) (m := 1000000000000) hg.1 (by omega) (by omega) (by omega)
          exact w64 (by omega) (by omega)
        have hcm : ∀ i, -24000000 ≤ mcol ws ls ls.length i ∧ mcol ws ls ls.length i ≤ 24000000 := by
          intro i
          have := mcol_bnd hMB ls.length (Nat.le_refl _) i
          rw [← f3, psum_all] at this
          rw [← f3]
          omega
        simp only [if_true, if_pos (show 0 < (ls.length : Int) by omega), hd0, hml]
        refine Ev.bind ((validValues_ev _ _ (by omega)).to hV) ?_
        simp only [if_true]
        refine Ev.bind (r8w_ev _ (by omega)) ?_
        have hns : wsum 0 (mnum (gfold ws.sum (mtot ws ls)) (mtot ws ls)) = (mnum (gfold ws.sum (mtot ws ls)) (mtot ws ls)).sum := by
          rw [wsum_eq 1000000 _ 0 v4 (by omega) (by omega) (by omega)]; omega
        have hnb := sum_bounds 1000000 _ v4
        have key : (mtot ws ls).sum * wrap64 (Int.tdiv ws.sum (gfold ws.sum (mtot ws ls))) = (mnum (gfold ws.sum (mtot ws ls)) (mtot ws ls)).sum * ws.sum := by
          rw [d1, d2]
          exact mul_cancel3 (g := gfold ws.sum (mtot ws ls)) (by omega) (tdiv_mul hgd.1) (sum_div _ _ hgd.2)
        have w2 : wrap64 ((mnum (gfold ws.sum (mtot ws ls)) (mtot ws ls)).sum * ws.sum) = (mnum (gfold ws.sum (mtot ws ls)) (mtot ws ls)).sum * ws.sum := by
          have p := mprod (w := ws.sum) (x := (mnum (gfold ws.sum (mtot ws ls)) (mtot ws ls)).sum) (B := 40000000) hpos (by omega) (by omega)
          rw [Int.mul_comm ws.sum] at p
          exact w64 (by omega) (by omega)
        rw [hns]
        simp only [key, bne_self_eq_false]
        apply Ev.succ
        simp only [laws_FnMeans.j2, Bool.false_eq_true, if_false]
        refine fm_l1 hv ws.sum _ _ ⟨hpos, hT⟩ ⟨v1, v2⟩ hml v4 (fun i hi => ?_) hcm (mnum (gfold ws.sum (mtot ws ls)) (mtot ws ls)).length 0 (by omega)
        have hi' : i < (mtot ws ls).length := by rw [mtot_length]; omega
        have hx : (mtot ws ls).getD i 0 = mcol ws ls ls.length i := by unfold mtot; exact getD_range _ _ (by omega)
        rw [d1, d2, getD_map _ (0 : Int) _ hi', hx]
        exact mul_cancel3 (g := gfold ws.sum (mtot ws ls)) (by omega) (tdiv_mul hgd.1) (tdiv_mul (hgd.2 _ (by rw [← hx]; exact getD_mem hi')))


end Go.Proofs.Ytlhpejabdmejbaa.Pure
