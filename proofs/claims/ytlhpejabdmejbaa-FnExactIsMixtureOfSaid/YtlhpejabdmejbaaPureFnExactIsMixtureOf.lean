/- Proved: the pure half of the law FnExactIsMixtureOf: the printed functions answer true, for every input. No condition. -/
import Derived.Test.YtlhpejabdmejbaaPFnExactIsMixtureOfx13
import Derived.Test.YtlhpejabdmejbaaBase
import Derived.Test.YtlhpejabdmejbaaLists
import Derived.Test.YtlhpejabdmejbaaPsum
import Derived.Test.YtlhpejabdmejbaaMix
import Derived.Test.YtlhpejabdmejbaaCeil
import Derived.Test.YtlhpejabdmejbaaRnd
namespace Go.Proofs.Ytlhpejabdmejbaa.Pure
open Go.RowKit Go.Proofs.Ytlhpejabdmejbaa.PFnExactIsMixtureOf Go.Proofs.YtlhpejabdmejbaaW.PrintWords Go.Proofs.YtlhpejabdmejbaaW.PrintLast Go.Proofs.YtlhpejabdmejbaaW.PrintMore Go.Proofs.Ytlhpejabdmejbaa.Base
set_option linter.unusedVariables false
set_option linter.unusedSimpArgs false

/-! laws.szInt64S -/
theorem szS_eq (l : List Int) (a : Int) (hl : l.length ≤ 9223372036854775807) (h0 : 0 ≤ a) (h1 : a ≤ 1048576) : laws_szInt64S.f l a = some (if a < l.length then -1 else a - l.length) := by
  unfold laws_szInt64S.f
  rw [w64 (by omega) (by omega)]
  by_cases h : a < l.length
  · rw [if_pos (by omega), if_pos h]
  · rw [if_neg (by omega), if_neg h]

/-! laws.szInt64SS -/
theorem rdl_get {xs : List (List Int)} {i : Nat} (h : i < xs.length) : rd_L1 xs (i : Int) = xs[i] := by
  unfold rd_L1; exact getD_get h
theorem szSS_l0 (l : List (List Int)) (a : Int) (hl : l.length ≤ 1048576) (hr : ∀ r ∈ l, r.length ≤ 9223372036854775807) (h1 : a ≤ 1048576) : ∀ (d i : Nat) (b : Int), d + i = l.length → 0 ≤ b → b ≤ a → (∀ (j : Nat) (h : j < l.length), j < i → ((l[j]).length : Int) ≤ a) → ∃ r : Int, Ev (fun k => laws_szInt64SS.l0 k l b i) r ∧ (r = -1 ∨ (0 ≤ r ∧ r ≤ a ∧ ∀ x ∈ l, (x.length : Int) ≤ a)) := by
  intro d
  induction d with
  | zero =>
    intro i b hd h0 hb hj
    refine ⟨b, ?_, .inr ⟨h0, hb, fun x hx => ?_⟩⟩
    · apply Ev.succ
      simp only [laws_szInt64SS.l0, if_neg (show ¬ (i : Int) < (l.length : Int) by omega)]
      exact Ev.now _
    · obtain ⟨j, hj', rfl⟩ := List.getElem_of_mem hx
      exact hj j hj' (by omega)
  | succ d ih =>
    intro i b hd h0 hb hj
    have hi : i < l.length := by omega
    have hri := hr l[i] (List.getElem_mem hi)
    by_cases h : b < (l[i]).length
    · refine ⟨-1, ?_, .inl rfl⟩
      apply Ev.succ
      simp only [laws_szInt64SS.l0, if_pos (show (i : Int) < (l.length : Int) by omega), if_pos (show 0 ≤ (i : Int) by omega), rdl_get hi, szS_eq l[i] b hri h0 (by omega), if_pos h, Option.bind_some, if_pos (show (-1 : Int) < 0 by omega)]
      exact Ev.now _
    · obtain ⟨r, hr1, hr2⟩ := ih (i + 1) (b - (l[i]).length) (by omega) (by omega) (by omega) (fun j hj1 hj2 => by
        by_cases e : j = i
        · subst e; omega
        · exact hj j hj1 (by omega))
      refine ⟨r, ?_, hr2⟩
      apply Ev.succ
      simp only [laws_szInt64SS.l0, if_pos (show (i : Int) < (l.length : Int) by omega), if_pos (show 0 ≤ (i : Int) by omega), rdl_get hi, szS_eq l[i] b hri h0 (by omega), if_neg h, Option.bind_some, if_neg (show ¬ b - (l[i]).length < 0 by omega), w64 (show (-9223372036854775808) ≤ (i : Int) + 1 by omega) (by omega)]
      exact hr1
theorem szSS_ev (l : List (List Int)) (a : Int) (hl : l.length ≤ 9223372036854775807) (hr : ∀ r ∈ l, r.length ≤ 9223372036854775807) (h0 : 0 ≤ a) (h1 : a ≤ 1048576) : ∃ r : Int, Ev (fun k => laws_szInt64SS.f k l a) r ∧ (r = -1 ∨ (0 ≤ r ∧ r ≤ a ∧ l.length ≤ 1048576 ∧ ∀ x ∈ l, x.length ≤ 1048576)) := by
  unfold laws_szInt64SS.f
  rw [w64 (show (-9223372036854775808) ≤ a - (l.length : Int) by omega) (by omega)]
  by_cases h : a - (l.length : Int) < 0
  · simp only [if_pos h]
    exact ⟨-1, Ev.now _, .inl rfl⟩
  · simp only [if_neg h]
    obtain ⟨r, h1', h2⟩ := szSS_l0 l a (by omega) hr h1 l.length 0 (a - l.length) (by omega) (by omega) (by omega) (fun j _ hj => by omega)
    refine ⟨r, h1', ?_⟩
    rcases h2 with h2 | ⟨h2, h3, h4⟩
    · exact .inl h2
    · exact .inr ⟨h2, h3, by omega, fun x hx => by have := h4 x hx; omega⟩

/-! laws.szMixture -/
theorem szMixture_ev (ws : List Int) (l : List (List Int)) (hw : ws.length ≤ 9223372036854775807) (hl : l.length ≤ 9223372036854775807) (hr : ∀ r ∈ l, r.length ≤ 9223372036854775807) (a : Int) (h0 : 0 ≤ a) (h1 : a ≤ 1048576) : ∃ r : Int, Ev (fun k => laws_szMixture.f k ws l a) r ∧ (r = -1 ∨ (0 ≤ r ∧ r ≤ a ∧ ws.length ≤ 1048576 ∧ l.length ≤ 1048576 ∧ ∀ x ∈ l, x.length ≤ 1048576)) := by
  unfold laws_szMixture.f
  simp only [szS_eq ws a hw h0 (by omega), Option.bind_some]
  by_cases h : a < ws.length
  · simp only [if_pos h, if_pos (show (-1 : Int) < 0 by omega)]
    exact ⟨-1, Ev.now _, .inl rfl⟩
  · simp only [if_neg h, if_neg (show ¬ a - (ws.length : Int) < 0 by omega)]
    obtain ⟨r, h2, h3⟩ := szSS_ev l (a - ws.length) hl hr (by omega) (by omega)
    refine ⟨r, Ev.bind h2 ?_, ?_⟩
    · rcases h3 with rfl | h3
      · exact Ev.now _
      · simp only [if_neg (show ¬ r < 0 by omega)]
        exact Ev.now _
    · rcases h3 with h3 | ⟨h3, h4, h5, h6⟩
      · exact .inl h3
      · exact .inr ⟨h3, by omega, by omega, h5, h6⟩

/-! laws.toInt64S -/
theorem to_step (l : List Int) (i : Nat) (hi : i < l.length) : (l.take i ++ List.replicate (l.length - i) 0).set i l[i] = l.take (i + 1) ++ List.replicate (l.length - (i + 1)) 0 := by
  rw [show l.length - i = (l.length - (i + 1)) + 1 by omega, List.replicate_succ, List.set_append, if_neg (by simp; omega), List.length_take, Nat.min_eq_left (by omega), Nat.sub_self, List.set_cons_zero, List.take_succ_eq_append_getElem hi, List.append_assoc]
  rfl
theorem to_l0 (l : List Int) (hl : l.length ≤ 35184372088832) : ∀ (d i : Nat), d + i = l.length → Ev (fun k => laws_toInt64S.l0 k l (l.take i ++ List.replicate (l.length - i) 0) i) l := by
  intro d
  induction d with
  | zero =>
    intro i hd
    apply Ev.succ
    simp only [laws_toInt64S.l0, if_neg (show ¬ (i : Int) < (l.length : Int) by omega)]
    rw [List.take_of_length_le (by omega), show l.length - i = 0 by omega]
    simpa using Ev.now l
  | succ d ih =>
    intro i hd
    have hi : i < l.length := by omega
    apply Ev.succ
    simp only [laws_toInt64S.l0, if_pos (show (i : Int) < (l.length : Int) by omega), if_pos (show 0 ≤ (i : Int) by omega), if_pos (show (i : Int) < ((l.take i ++ List.replicate (l.length - i) (0 : Int)).length : Int) by simp; omega), rd_get hi, w64 (show (-9223372036854775808) ≤ (i : Int) + 1 by omega) (by omega), Int.toNat_natCast, to_step l i hi]
    exact ih (i + 1) (by omega)
theorem toInt64S_ev (l : List Int) (hl : l.length ≤ 35184372088832) : Ev (fun k => laws_toInt64S.f k l) l := by
  simp only [laws_toInt64S.f, if_pos (show 0 ≤ (l.length : Int) by omega), Int.toNat_natCast, if_pos hl]
  have := to_l0 l hl l.length 0 (by omega)
  simpa using this

/-! laws.toInt64SS -/
theorem toss_step (l : List (List Int)) (i : Nat) (hi : i < l.length) : (l.take i ++ List.replicate (l.length - i) []).set i l[i] = l.take (i + 1) ++ List.replicate (l.length - (i + 1)) [] := by
  rw [show l.length - i = (l.length - (i + 1)) + 1 by omega, List.replicate_succ, List.set_append, if_neg (by simp; omega), List.length_take, Nat.min_eq_left (by omega), Nat.sub_self, List.set_cons_zero, List.take_succ_eq_append_getElem hi, List.append_assoc]
  rfl
theorem rdl_get2 {xs : List (List Int)} {i : Nat} (h : i < xs.length) : rd_L1 xs (i : Int) = xs[i] := by
  unfold rd_L1; exact getD_get h
theorem toss_l0 (l : List (List Int)) (hl : l.length ≤ 1048576) (hr : ∀ r ∈ l, r.length ≤ 1048576) : ∀ (d i : Nat), d + i = l.length → Ev (fun k => laws_toInt64SS.l0 k l (l.take i ++ List.replicate (l.length - i) []) i) l := by
  intro d
  induction d with
  | zero =>
    intro i hd
    apply Ev.succ
    simp only [laws_toInt64SS.l0, if_neg (show ¬ (i : Int) < (l.length : Int) by omega)]
    rw [List.take_of_length_le (by omega), show l.length - i = 0 by omega]
    simpa using Ev.now l
  | succ d ih =>
    intro i hd
    have hi : i < l.length := by omega
    have hri := hr l[i] (List.getElem_mem hi)
    apply Ev.succ
    simp only [laws_toInt64SS.l0, if_pos (show (i : Int) < (l.length : Int) by omega), if_pos (show 0 ≤ (i : Int) by omega), if_pos (show (i : Int) < ((l.take i ++ List.replicate (l.length - i) ([] : List Int)).length : Int) by simp; omega), rdl_get2 hi, w64 (show (-9223372036854775808) ≤ (i : Int) + 1 by omega) (by omega), Int.toNat_natCast]
    refine Ev.bind (toInt64S_ev l[i] (by omega)) ?_
    rw [toss_step l i hi]
    exact ih (i + 1) (by omega)
theorem toInt64SS_ev (l : List (List Int)) (hl : l.length ≤ 1048576) (hr : ∀ r ∈ l, r.length ≤ 1048576) : Ev (fun k => laws_toInt64SS.f k l) l := by
  simp only [laws_toInt64SS.f, if_pos (show 0 ≤ (l.length : Int) by omega), Int.toNat_natCast, if_pos (show l.length ≤ 11728124029610 by omega)]
  have := toss_l0 l hl hr l.length 0 (by omega)
  simpa using this

/-! laws.toMixture -/
theorem toMixture_ev (ws : List Int) (l : List (List Int)) (hw : ws.length ≤ 1048576) (hl : l.length ≤ 1048576) (hr : ∀ r ∈ l, r.length ≤ 1048576) : Ev (fun k => laws_toMixture.f k ws l) (ws, l) := by
  unfold laws_toMixture.f
  exact Ev.bind (toInt64S_ev ws (by omega)) (Ev.bind (toInt64SS_ev l hl hr) (Ev.now _))

/-! laws.eqInt64S -/
theorem eq_l0 (a b : List Int) (hl : a.length = b.length) (hm : a.length ≤ 9223372036854775806) : ∀ (d i : Nat), d + i = a.length → Ev (fun k => laws_eqInt64S.l0 k a b i) (decide (a.drop i = b.drop i)) := by
  intro d
  induction d with
  | zero =>
    intro i hd
    apply Ev.succ
    simp only [laws_eqInt64S.l0, if_neg (show ¬ (i : Int) < (a.length : Int) by omega)]
    rw [List.drop_of_length_le (by omega), List.drop_of_length_le (by omega)]
    exact Ev.now _
  | succ d ih =>
    intro i hd
    have hi : i < a.length := by omega
    have hi' : i < b.length := by omega
    apply Ev.succ
    simp only [laws_eqInt64S.l0, if_pos (show (i : Int) < (a.length : Int) by omega), if_pos (show 0 ≤ (i : Int) by omega), if_pos (show (i : Int) < (b.length : Int) by omega), rd_get hi, rd_get hi', w64 (show (-9223372036854775808) ≤ (i : Int) + 1 by omega) (by omega)]
    rw [List.drop_eq_getElem_cons hi, List.drop_eq_getElem_cons hi']
    by_cases h : a[i] = b[i]
    · simp only [if_pos h]
      exact (ih (i + 1) (by omega)).to (by simp only [List.cons.injEq, h, true_and])
    · simp only [if_neg h]
      exact (Ev.now _).to (by simp only [List.cons.injEq, h, false_and, decide_false])
theorem eqInt64S_ev (a b : List Int) (hm : a.length ≤ 9223372036854775806) : Ev (fun k => laws_eqInt64S.f k a b) (decide (a = b)) := by
  unfold laws_eqInt64S.f
  by_cases h : a.length = b.length
  · simp only [if_pos (show (a.length : Int) = (b.length : Int) by omega)]
    simpa using eq_l0 a b h hm a.length 0 (by omega)
  · simp only [if_neg (show ¬ (a.length : Int) = (b.length : Int) by omega)]
    exact (Ev.now _).to (by symm; simp; intro e; exact h (by rw [e]))

/-! laws.eqInt64SS -/
theorem rdl_get3 {xs : List (List Int)} {i : Nat} (h : i < xs.length) : rd_L1 xs (i : Int) = xs[i] := by
  unfold rd_L1; exact getD_get h
theorem eqss_l0 (a b : List (List Int)) (hl : a.length = b.length) (hm : a.length ≤ 9223372036854775806) (hr : ∀ r ∈ a, r.length ≤ 9223372036854775806) : ∀ (d i : Nat), d + i = a.length → Ev (fun k => laws_eqInt64SS.l0 k a b i) (decide (a.drop i = b.drop i)) := by
  intro d
  induction d with
  | zero =>
    intro i hd
    apply Ev.succ
    simp only [laws_eqInt64SS.l0, if_neg (show ¬ (i : Int) < (a.length : Int) by omega)]
    rw [List.drop_of_length_le (by omega), List.drop_of_length_le (by omega)]
    exact Ev.now _
  | succ d ih =>
    intro i hd
    have hi : i < a.length := by omega
    have hi' : i < b.length := by omega
    apply Ev.succ
    simp only [laws_eqInt64SS.l0, if_pos (show (i : Int) < (a.length : Int) by omega), if_pos (show 0 ≤ (i : Int) by omega), if_pos (show (i : Int) < (b.length : Int) by omega), rdl_get3 hi, rdl_get3 hi', w64 (show (-9223372036854775808) ≤ (i : Int) + 1 by omega) (by omega)]
    rw [List.drop_eq_getElem_cons hi, List.drop_eq_getElem_cons hi']
    refine Ev.bind (eqInt64S_ev a[i] b[i] (hr _ (List.getElem_mem hi))) ?_
    by_cases h : a[i] = b[i]
    · simp only [decide_eq_true h, if_true]
      exact (ih (i + 1) (by omega)).to (by simp only [List.cons.injEq, h, true_and])
    · simp only [decide_eq_false h, Bool.false_eq_true, if_false]
      exact (Ev.now _).to (by simp only [List.cons.injEq, h, false_and, decide_false])
theorem eqInt64SS_ev (a b : List (List Int)) (hm : a.length ≤ 9223372036854775806) (hr : ∀ r ∈ a, r.length ≤ 9223372036854775806) : Ev (fun k => laws_eqInt64SS.f k a b) (decide (a = b)) := by
  unfold laws_eqInt64SS.f
  by_cases h : a.length = b.length
  · simp only [if_pos (show (a.length : Int) = (b.length : Int) by omega)]
    simpa using eqss_l0 a b h hm hr a.length 0 (by omega)
  · simp only [if_neg (show ¬ (a.length : Int) = (b.length : Int) by omega)]
    exact (Ev.now _).to (by symm; simp; intro e; exact h (by rw [e]))

/-! laws.eqMixture -/
theorem eqMixture_ev (ws : List Int) (l : List (List Int)) (hw : ws.length ≤ 1048576) (hl : l.length ≤ 1048576) (hr : ∀ r ∈ l, r.length ≤ 1048576) : Ev (fun k => laws_eqMixture.f k ws l ws l) true := by
  unfold laws_eqMixture.f
  refine Ev.bind (eqInt64S_ev ws ws (by omega)) ?_
  simp only [decide_true, if_true]
  refine Ev.bind (eqInt64SS_ev l l (by omega) (fun r h => by have := hr r h; omega)) ?_
  simp only [decide_true, if_true]
  exact Ev.now _

/-! laws.szValues -/
theorem szValues_ev (d : Int) (l : List Int) (a : Int) (hl : l.length ≤ 9223372036854775807) (h0 : 0 ≤ a) (h1 : a ≤ 1048576) : ∃ r : Int, laws_szValues.f d l a = some r ∧ (r = -1 ∨ (0 ≤ r ∧ r ≤ a ∧ l.length ≤ 1048576)) := by
  unfold laws_szValues.f
  simp only [szS_eq l a hl h0 (by omega), Option.bind_some]
  by_cases h : a < l.length
  · simp only [if_pos h, if_pos (show (-1 : Int) < 0 by omega)]
    exact ⟨-1, rfl, .inl rfl⟩
  · simp only [if_neg h, if_neg (show ¬ a - (l.length : Int) < 0 by omega)]
    exact ⟨_, rfl, .inr ⟨by omega, by omega, by omega⟩⟩

/-! spec.l00In -/
theorem in_eq (a b c : Int) : spec_l00In.f a b c = some (decide (b ≤ a ∧ a ≤ c)) := by
  unfold spec_l00In.f
  by_cases h : b ≤ a
  · rw [if_pos (show a ≥ b from h)]; simp [h]
  · rw [if_neg (show ¬ a ≥ b from h)]; simp [h]

/-! spec.l00Same -/
theorem same_l0 (a b : List Int) (hl : a.length = b.length) (hm : a.length ≤ 9223372036854775806) : ∀ (d i : Nat), d + i = a.length → Ev (fun k => spec_l00Same.l0 k a b i) (decide (a.drop i = b.drop i)) := by
  intro d
  induction d with
  | zero =>
    intro i hd
    apply Ev.succ
    simp only [spec_l00Same.l0, if_neg (show ¬ (i : Int) < (a.length : Int) by omega)]
    rw [List.drop_of_length_le (by omega), List.drop_of_length_le (by omega)]
    exact Ev.now _
  | succ d ih =>
    intro i hd
    have hi : i < a.length := by omega
    have hi' : i < b.length := by omega
    apply Ev.succ
    simp only [spec_l00Same.l0, if_pos (show (i : Int) < (a.length : Int) by omega), if_pos (show 0 ≤ (i : Int) by omega), if_pos (show (i : Int) < (b.length : Int) by omega), rd_get hi, rd_get hi', w64 (show (-9223372036854775808) ≤ (i : Int) + 1 by omega) (by omega)]
    rw [List.drop_eq_getElem_cons hi, List.drop_eq_getElem_cons hi']
    by_cases h : a[i] = b[i]
    · simp only [if_pos h]
      exact (ih (i + 1) (by omega)).to (by simp only [List.cons.injEq, h, true_and])
    · simp only [if_neg h]
      exact (Ev.now _).to (by simp only [List.cons.injEq, h, false_and, decide_false])
theorem same_ev (a b : List Int) (hm : a.length ≤ 9223372036854775806) : Ev (fun k => spec_l00Same.f k a b) (decide (a = b)) := by
  unfold spec_l00Same.f
  by_cases h : a.length = b.length
  · simp only [if_pos (show (a.length : Int) = (b.length : Int) by omega)]
    simpa using same_l0 a b h hm a.length 0 (by omega)
  · simp only [if_neg (show ¬ (a.length : Int) = (b.length : Int) by omega)]
    exact (Ev.now _).to (by symm; simp; intro e; exact h (by rw [e]))

/-! spec.l06Is -/
/-- A valid mixture. -/
def mxRow (ls : List (List Int)) (i : Nat) : Bool := decide ((ls.getD i []).length = (ls.headD []).length) && (((ls.getD i []).all fun x => decide (-1000000 ≤ x ∧ x ≤ 1000000)) && (List.range i).all fun j => !decide (ls.getD j [] = ls.getD i []))
def mxW (ws : List Int) : Bool := ws.all fun w => decide (1 ≤ w ∧ w ≤ 1000000)
def VM (ws : List Int) (ls : List (List Int)) : Bool := decide (1 ≤ (ls.length : Int) ∧ (ls.length : Int) ≤ 64) && (decide (ws.length = ls.length) && (decide ((ls.headD []).length ≤ 40) && (mxW ws && ((List.range ls.length).all (mxRow ls) && decide (wsum 0 ws ≤ 1000000)))))
theorem rdl_get6 {xs : List (List Int)} {i : Nat} (h : i < xs.length) : rd_L1 xs (i : Int) = xs.getD i [] := by
  unfold rd_L1; simp
theorem rdl_head6 (xs : List (List Int)) : rd_L1 xs 0 = xs.headD [] := by
  unfold rd_L1; cases xs <;> rfl
theorem rd_getD {xs : List Int} {i : Nat} : rd xs (i : Int) = xs.getD i 0 := by
  unfold rd; simp
theorem vm_l2 (ws : List Int) (ls : List (List Int)) (t : Int) (i : Nat) (hi : i < ls.length) (hl : ls.length ≤ 64) (hr : ∀ r ∈ ls, r.length ≤ 1048576) {s : Bool} (hs : Ev (fun k => spec_l06Is.l0 k t (wrap64 ((i : Int) + 1)) ws ls) s) : Ev (fun k => spec_l06Is.l2 k t i 0 ws ls) (((List.range i).all fun j => !decide (ls.getD j [] = ls.getD i [])) && s) := by
  refine all_step i (fun j => !decide (ls.getD j [] = ls.getD i [])) (fun k j => spec_l06Is.l2 k t i j ws ls) ?_ ?_
  · apply Ev.succ
    simp only [spec_l06Is.l2, if_neg (show ¬ (i : Int) < i by omega)]
    exact hs
  · intro j hj q hq
    have hj' : j < ls.length := by omega
    apply Ev.succ
    simp only [spec_l06Is.l2, if_pos (show (j : Int) < i by omega), if_pos (show 0 ≤ (j : Int) by omega), if_pos (show (j : Int) < ls.length by omega), if_pos (show 0 ≤ (i : Int) by omega), if_pos (show (i : Int) < ls.length by omega), rdl_get6 hj', rdl_get6 hi]
    refine Ev.bind (same_ev (ls.getD j []) (ls.getD i []) ?_) ?_
    · have := hr (ls.getD j []) (by simp [List.getD_eq_getElem?_getD, hj'])
      omega
    · by_cases e : ls.getD j [] = ls.getD i []
      · simp only [decide_eq_true e, if_true, Bool.not_true, Bool.false_and]
        exact Ev.now _
      · simp only [decide_eq_false e, Bool.false_eq_true, if_false, Bool.not_false, Bool.true_and, inc hj (by omega)]
        exact hq
theorem vm_l1 (ws : List Int) (ls : List (List Int)) (t : Int) (i : Nat) (hi : i < ls.length) (hl : ls.length ≤ 64) (hr : ∀ r ∈ ls, r.length ≤ 1048576) {s : Bool} (hs : Ev (fun k => spec_l06Is.l2 k t i 0 ws ls) s) : Ev (fun k => spec_l06Is.l1 k t i 0 ws ls) (((ls.getD i []).all fun x => decide (-1000000 ≤ x ∧ x ≤ 1000000)) && s) := by
  have hm := hr (ls.getD i []) (by simp [List.getD_eq_getElem?_getD, hi])
  rw [← all_range (ls.getD i []) _ 0]
  refine all_step (ls.getD i []).length (fun j => decide (-1000000 ≤ (ls.getD i []).getD j 0 ∧ (ls.getD i []).getD j 0 ≤ 1000000)) (fun k j => spec_l06Is.l1 k t i j ws ls) ?_ ?_
  · apply Ev.succ
    simp only [spec_l06Is.l1, if_pos (show 0 ≤ (i : Int) by omega), if_pos (show (i : Int) < ls.length by omega), rdl_get6 hi, if_neg (show ¬ ((ls.getD i []).length : Int) < (ls.getD i []).length by omega)]
    exact hs
  · intro j hj q hq
    apply Ev.succ
    simp only [spec_l06Is.l1, if_pos (show 0 ≤ (i : Int) by omega), if_pos (show (i : Int) < ls.length by omega), rdl_get6 hi, if_pos (show (j : Int) < (ls.getD i []).length by omega), if_pos (show 0 ≤ (j : Int) by omega), rd_getD, in_eq, Option.bind_some]
    by_cases e : -1000000 ≤ (ls.getD i []).getD j 0 ∧ (ls.getD i []).getD j 0 ≤ 1000000
    · simp only [decide_eq_true e, if_true, Bool.true_and, inc hj (by omega)]
      exact hq
    · simp only [decide_eq_false e, Bool.false_eq_true, if_false, Bool.false_and]
      exact Ev.now _
theorem take_wsum (ws : List Int) (i : Nat) (h : i < ws.length) : wrap64 (wsum 0 (ws.take i) + ws.getD i 0) = wsum 0 (ws.take (i + 1)) := by
  have e : ws.getD i 0 = ws[i] := by simp [List.getD_eq_getElem?_getD, h]
  rw [List.take_succ_eq_append_getElem h, e]
  unfold wsum
  rw [List.foldl_append]
  rfl
theorem vm_l0 (ws : List Int) (ls : List (List Int)) (hl : ls.length ≤ 64) (hw : ws.length = ls.length) (hr : ∀ r ∈ ls, r.length ≤ 1048576) : Ev (fun k => spec_l06Is.l0 k 0 0 ws ls) ((List.range ls.length).all (fun i => decide (1 ≤ ws.getD i 0 ∧ ws.getD i 0 ≤ 1000000) && mxRow ls i) && decide (wsum 0 ws ≤ 1000000)) := by
  have := all_step ls.length (fun i => decide (1 ≤ ws.getD i 0 ∧ ws.getD i 0 ≤ 1000000) && mxRow ls i) (fun k i => spec_l06Is.l0 k (wsum 0 (ws.take i)) i ws ls) (r := decide (wsum 0 ws ≤ 1000000)) ?_ ?_
  · exact this
  · apply Ev.succ
    simp only [spec_l06Is.l0, if_neg (show ¬ (ls.length : Int) < ls.length by omega)]
    rw [List.take_of_length_le (by omega)]
    exact Ev.now _
  · intro i hi s hs
    have hi' : i < ws.length := by omega
    apply Ev.succ
    simp only [spec_l06Is.l0, if_pos (show (i : Int) < ls.length by omega), if_pos (show 0 ≤ (i : Int) by omega), if_pos (show (i : Int) < ws.length by omega), rd_getD, in_eq, Option.bind_some, if_pos (show 0 < (ls.length : Int) by omega), rdl_get6 hi, rdl_head6]
    by_cases e : 1 ≤ ws.getD i 0 ∧ ws.getD i 0 ≤ 1000000
    · simp only [decide_eq_true e, if_true, Bool.true_and]
      apply Ev.succ
      by_cases e2 : (ls.getD i []).length = (ls.headD []).length
      · have hne : (((ls.getD i []).length : Int) != ((ls.headD []).length : Int)) = false := by simp only [bne_eq_false_iff_eq]; omega
        simp only [spec_l06Is.j2, hne, Bool.false_eq_true, if_false, if_pos (show 0 ≤ (i : Int) by omega), if_pos (show (i : Int) < ws.length by omega), rd_getD, take_wsum ws i hi']
        refine (vm_l1 ws ls _ i hi hl hr (vm_l2 ws ls _ i hi hl hr (s := s) ?_)).to ?_
        · rw [inc hi (by omega)]
          exact hs
        · simp only [mxRow, decide_eq_true e2, Bool.true_and, Bool.and_assoc]
      · have hne : (((ls.getD i []).length : Int) != ((ls.headD []).length : Int)) = true := by simp only [bne_iff_ne, ne_eq]; omega
        simp only [spec_l06Is.j2, hne, if_true]
        exact (Ev.now _).to (by simp only [mxRow, decide_eq_false e2, Bool.false_and])
    · simp only [decide_eq_false e, Bool.false_eq_true, if_false, Bool.false_and]
      apply Ev.succ
      simp only [spec_l06Is.j2, if_true]
      exact Ev.now _
theorem all_and {n : Nat} (p q : Nat → Bool) : (List.range n).all (fun i => p i && q i) = ((List.range n).all p && (List.range n).all q) := by
  induction n with
  | zero => rfl
  | succ n ih =>
    rw [List.range_succ, List.all_append, List.all_append, List.all_append, ih]
    simp only [List.all_cons, List.all_nil, Bool.and_true]
    cases p n <;> cases q n <;> simp
theorem l06Is_ev (ws : List Int) (ls : List (List Int)) (hw : ws.length ≤ 1048576) (hl : ls.length ≤ 1048576) (hr : ∀ r ∈ ls, r.length ≤ 1048576) : Ev (fun k => spec_l06Is.f k ws ls) (VM ws ls) := by
  unfold spec_l06Is.f VM
  simp only [in_eq, Option.bind_some, rdl_head6]
  by_cases h1 : 1 ≤ (ls.length : Int) ∧ (ls.length : Int) ≤ 64
  · by_cases h2 : ws.length = ls.length
    · simp only [decide_eq_true h1, decide_eq_true h2, if_true, if_pos (show (ws.length : Int) = ls.length by omega), if_pos (show 0 < (ls.length : Int) by omega), Bool.true_and]
      apply Ev.succ
      by_cases h3 : (ls.headD []).length ≤ 40
      · simp only [spec_l06Is.j0, decide_eq_false (show ¬ ((ls.headD []).length : Int) > 40 by omega), decide_eq_true h3, Bool.false_eq_true, if_false, Bool.true_and]
        refine (vm_l0 ws ls (by omega) h2 hr).to ?_
        rw [all_and, Bool.and_assoc, mxW, ← all_range ws _ 0, h2]
      · simp only [spec_l06Is.j0, decide_eq_true (show ((ls.headD []).length : Int) > 40 by omega), decide_eq_false h3, if_true, Bool.false_and]
        exact Ev.now _
    · simp only [decide_eq_true h1, decide_eq_false h2, if_true, if_neg (show ¬ (ws.length : Int) = ls.length by omega), Bool.false_and, Bool.and_false]
      apply Ev.succ
      simp only [spec_l06Is.j0, if_true]
      exact Ev.now _
  · simp only [decide_eq_false h1, Bool.false_eq_true, if_false, Bool.false_and]
    apply Ev.succ
    simp only [spec_l06Is.j0, if_true]
    exact Ev.now _
theorem vm_facts {ws : List Int} {ls : List (List Int)} (h : VM ws ls = true) : 1 ≤ ls.length ∧ ls.length ≤ 64 ∧ ws.length = ls.length ∧ (ls.headD []).length ≤ 40 ∧ (∀ w ∈ ws, 1 ≤ w ∧ w ≤ 1000000) ∧ (∀ i, i < ls.length → (ls.getD i []).length = (ls.headD []).length ∧ ∀ x ∈ ls.getD i [], -1000000 ≤ x ∧ x ≤ 1000000) ∧ wsum 0 ws ≤ 1000000 := by
  simp only [VM, mxW, mxRow, Bool.and_eq_true, decide_eq_true_eq, List.all_eq_true, List.mem_range] at h
  obtain ⟨h1, h2, h3, h4, h5, h6⟩ := h
  exact ⟨by omega, by omega, h2, h3, h4, fun i hi => ⟨(h5 i hi).1, (h5 i hi).2.1⟩, h6⟩

/-! spec.l01Is -/
theorem l01Is_ev (den : Int) (vs : List Int) (hv : vs.length ≤ 9223372036854775806) : Ev (fun k => spec_l01Is.f k den vs) (VV den vs) := by
  unfold spec_l01Is.f
  have h := all_step vs.length (fun i => decide (-1000000 ≤ vs.getD i 0 ∧ vs.getD i 0 ≤ 1000000)) (fun k i => spec_l01Is.l0 k i den vs) (r := decide (1 ≤ den ∧ den ≤ 1000) && decide (vs.length ≤ 40)) ?_ ?_
  · refine h.to ?_
    rw [all_range vs (fun x => decide (-1000000 ≤ x ∧ x ≤ 1000000)) 0]
    unfold VV
    cases vs.all fun x => decide (-1000000 ≤ x ∧ x ≤ 1000000) <;> simp
  · apply Ev.succ
    simp only [spec_l01Is.l0, if_neg (show ¬ (vs.length : Int) < vs.length by omega), in_eq, Option.bind_some]
    by_cases c : 1 ≤ den ∧ den ≤ 1000
    · simp only [decide_eq_true c, if_true, Bool.true_and]
      refine (Ev.now _).to ?_
      exact decide_eq_decide.2 (by omega)
    · simp only [decide_eq_false c, Bool.false_eq_true, if_false, Bool.false_and]
      exact Ev.now _
  · intro i hi s hs
    apply Ev.succ
    simp only [spec_l01Is.l0, if_pos (show (i : Int) < vs.length by omega), if_pos (show 0 ≤ (i : Int) by omega), mrd, in_eq, Option.bind_some]
    by_cases c : -1000000 ≤ vs.getD i 0 ∧ vs.getD i 0 ≤ 1000000
    · simp only [decide_eq_true c, if_true, Bool.true_and, inc hi (by omega)]
      exact hs
    · simp only [decide_eq_false c, Bool.false_eq_true, if_false, Bool.false_and]
      exact Ev.now _

/-! spec.l01Floor -/
theorem tdiv_mul_range {a b m : Int} (hb : 0 < b) (h1 : -m ≤ a) (h2 : a ≤ m) : -m ≤ a.tdiv b * b ∧ a.tdiv b * b ≤ m := by
  have h := ediv_bounds (a := a) hb
  rcases tdiv_cases (a := a) hb with ⟨e, _, h3⟩ | ⟨e, _, h3, h4⟩
  · rw [e]
    rcases h3 with h3 | h3
    · have : 0 ≤ a / b * b := Int.mul_nonneg (Int.ediv_nonneg h3 (by omega)) (by omega)
      omega
    · have := Int.emod_add_mul_ediv a b
      have h5 : b * (a / b) = (a / b) * b := Int.mul_comm _ _
      omega
  · have h5 : (a / b + 1) * b = a / b * b + b := by rw [Int.add_mul, Int.one_mul]
    have h6 : a / b < 0 := Int.ediv_neg_of_neg_of_pos h3 hb
    have h7 : (a / b + 1) * b ≤ 0 * b := Int.mul_le_mul_of_nonneg_right (by omega) (by omega)
    rw [e]
    omega
theorem sfloor_eq {a b : Int} (hb : 0 < b) (h1 : -9223372036854775807 ≤ a) (h2 : a ≤ 9223372036854775807) : spec_l01Floor.f a b = some (a / b) := by
  have r1 := tdiv_range hb h1 h2 (by omega)
  have r2 := tdiv_mul_range hb h1 h2
  have hf := floorA (a := a) hb
  have e1 : wrap64 (a.tdiv b) = a.tdiv b := w64 (by omega) (by omega)
  have e2 : wrap64 (a.tdiv b * b) = a.tdiv b * b := w64 (by omega) (by omega)
  unfold spec_l01Floor.f
  rw [if_neg (by omega), e1, e2]
  by_cases h : a.tdiv b * b > a
  · rw [if_pos h] at hf
    rw [if_pos h, w64 (by omega) (by omega), hf]
  · rw [if_neg h] at hf
    rw [if_neg h, hf]

/-! spec.l01Ceil -/
theorem ceil_eq {a b : Int} (hb : 0 < b) (hb2 : b ≤ 1000000) (h1 : -1000000000000 ≤ a) (h2 : a ≤ 1000000000000) : spec_l01Ceil.f a b = some (ceilOf a b) := by
  have hr := ceil_range (m := 1000000000000) hb h1 h2 (by omega)
  unfold spec_l01Ceil.f ceilOf
  rw [w64 (show (-9223372036854775808) ≤ -a by omega) (by omega), sfloor_eq hb (by omega) (by omega), Option.bind_some, w64 (by omega) (by omega)]

/-! spec.l01Rounds -/
theorem rounds_ev (den : Int) (nums l : List Int) (hd : 1 ≤ den ∧ den ≤ 1000) (hv : ∀ x ∈ nums, -1000000 ≤ x ∧ x ≤ 1000000) (hn : nums.length ≤ 1048576) : Ev (fun k => spec_l01Rounds.f k den nums l) (RND den nums l) := by
  unfold spec_l01Rounds.f RND
  by_cases c : l.length = nums.length
  · simp only [if_pos (show (l.length : Int) = nums.length by omega), decide_eq_true c, Bool.true_and]
    have h := all_step l.length (rnd1 den nums l) (fun k i => spec_l01Rounds.l0 k l i den nums) (r := true) ?_ ?_
    · rw [Bool.and_true] at h
      exact h
    · apply Ev.succ
      simp only [spec_l01Rounds.l0, if_neg (show ¬ (l.length : Int) < l.length by omega)]
      exact Ev.now _
    · intro i hi s hs
      have hx := hv (nums.getD i 0) (getD_mem (by omega))
      apply Ev.succ
      simp only [spec_l01Rounds.l0, if_pos (show (i : Int) < l.length by omega), if_pos (show 0 ≤ (i : Int) by omega), if_pos (show (i : Int) < nums.length by omega), rrd, sfloor_eq (show 0 < den by omega) (show -9223372036854775807 ≤ nums.getD i 0 by omega) (by omega), ceil_eq (show 0 < den by omega) (by omega) (show -1000000000000 ≤ nums.getD i 0 by omega) (by omega), Option.bind_some]
      unfold rnd1
      by_cases e1 : l.getD i 0 = nums.getD i 0 / den
      · simp only [if_pos e1, decide_eq_true e1, Bool.true_or, Bool.true_and, inc hi (by omega)]
        exact hs
      · simp only [if_neg e1, decide_eq_false e1, Bool.false_or]
        by_cases e2 : l.getD i 0 = ceilOf (nums.getD i 0) den
        · simp only [if_pos e2, decide_eq_true e2, Bool.true_and, inc hi (by omega)]
          exact hs
        · simp only [if_neg e2, decide_eq_false e2, Bool.false_and]
          exact Ev.now _
  · simp only [if_neg (show ¬ (l.length : Int) = nums.length by omega), decide_eq_false c, Bool.false_and]
    exact Ev.now _

/-! spec.l06Sums -/
theorem ms_dl {xs : List (List Int)} {i : Nat} : rd_L1 xs (i : Int) = xs.getD i [] := by
  unfold rd_L1; simp
theorem ms_d0 (xs : List (List Int)) : rd_L1 xs 0 = xs.headD [] := by
  unfold rd_L1; cases xs <;> rfl
theorem ms_l1 (W : List Int) (L : List (List Int)) (h : MB W L) (i : Nat) (n : Nat) (hi : i < L.length) (hn : (L.getD i []).length = n) (hs : n ≤ 1048576) {R : List Int} (hR : Ev (fun k => spec_l06Sums.l0 k (stair (mcol W L) n (i + 1) 0) (wrap64 ((i : Int) + 1)) W L) R) : ∀ (d j : Nat), d + j = n → Ev (fun k => spec_l06Sums.l1 k (stair (mcol W L) n i j) i j W L) R := by
  intro d
  induction d with
  | zero =>
    intro j hd
    apply Ev.succ
    simp only [spec_l06Sums.l1, stair_length, if_neg (show ¬ (j : Int) < (n : Int) by omega)]
    rw [show j = n by omega, stair_end]
    exact hR
  | succ d ih =>
    intro j hd
    have hw := h.1
    apply Ev.succ
    simp only [spec_l06Sums.l1, stair_length, if_pos (show (j : Int) < (n : Int) by omega), if_pos (show 0 ≤ (j : Int) by omega), if_pos (show 0 ≤ (i : Int) by omega), if_pos (show (i : Int) < (W.length : Int) by omega), if_pos (show (i : Int) < (L.length : Int) by omega), ms_dl, hn, mrd, Int.toNat_natCast, inc (show j < n by omega) (by omega)]
    rw [stair_get _ _ _ _ _ (show j < n by omega), if_neg (show ¬ j < j by omega), mb_wrap h i j hi, stair_set _ _ _ _ (show j < n by omega)]
    exact ih (j + 1) (by omega)
theorem ms_l0 (W : List Int) (L : List (List Int)) (h : MB W L) (n : Nat) (hl : L.length ≤ 1048576) (hn : ∀ i, i < L.length → (L.getD i []).length = n) (hs : n ≤ 1048576) : ∀ (d i : Nat), d + i = L.length → Ev (fun k => spec_l06Sums.l0 k (stair (mcol W L) n i 0) i W L) (stair (mcol W L) n L.length 0) := by
  intro d
  induction d with
  | zero =>
    intro i hd
    apply Ev.succ
    simp only [spec_l06Sums.l0, if_neg (show ¬ (i : Int) < (L.length : Int) by omega)]
    rw [show i = L.length by omega]
    exact Ev.now _
  | succ d ih =>
    intro i hd
    apply Ev.succ
    simp only [spec_l06Sums.l0, if_pos (show (i : Int) < (L.length : Int) by omega)]
    refine ms_l1 W L h i n (by omega) (hn i (by omega)) hs ?_ n 0 (by omega)
    rw [inc (show i < L.length by omega) (by omega)]
    exact ih (i + 1) (by omega)
theorem l06Sums_ev (W : List Int) (L : List (List Int)) (h : MB W L) (h0 : 0 < L.length) (hl : L.length ≤ 1048576) (hn : ∀ i, i < L.length → (L.getD i []).length = (L.headD []).length) (hs : (L.headD []).length ≤ 1048576) : Ev (fun k => spec_l06Sums.f k W L) (mtot W L) := by
  simp only [spec_l06Sums.f, if_pos (show 0 < (L.length : Int) by omega), ms_d0, if_pos (show 0 ≤ ((L.headD []).length : Int) by omega), Int.toNat_natCast, if_pos (show (L.headD []).length ≤ 35184372088832 by omega)]
  rw [mcol_first W L]
  exact (ms_l0 W L h (L.headD []).length hl hn hs L.length 0 (by omega)).to (mcol_last W L)

/-! spec.l01Sum -/
theorem ssum_l0 (l : List Int) (hl : l.length ≤ 9223372036854775806) : ∀ (d i : Nat) (acc : Int), d + i = l.length → Ev (fun k => spec_l01Sum.l0 k l acc i) (wsum acc (l.drop i)) := by
  intro d
  induction d with
  | zero =>
    intro i acc hd
    apply Ev.succ
    simp only [spec_l01Sum.l0, if_neg (show ¬ (i : Int) < (l.length : Int) by omega)]
    rw [List.drop_of_length_le (by omega)]
    exact Ev.now _
  | succ d ih =>
    intro i acc hd
    have hi : i < l.length := by omega
    apply Ev.succ
    simp only [spec_l01Sum.l0, if_pos (show (i : Int) < (l.length : Int) by omega), if_pos (show 0 ≤ (i : Int) by omega), rd_get hi, w64 (show (-9223372036854775808) ≤ (i : Int) + 1 by omega) (by omega)]
    rw [List.drop_eq_getElem_cons hi]
    exact ih (i + 1) _ (by omega)
theorem ssum_ev (l : List Int) (hl : l.length ≤ 9223372036854775806) : Ev (fun k => spec_l01Sum.f k l) (wsum 0 l) := by
  have := ssum_l0 l hl l.length 0 0 (by omega)
  simpa [spec_l01Sum.f] using this

/-! laws.toValues -/
theorem toValues_ev (d : Int) (l : List Int) (hl : l.length ≤ 1048576) : Ev (fun k => laws_toValues.f k d l) (d, l) := by
  unfold laws_toValues.f
  exact Ev.bind (toInt64S_ev l (by omega)) (Ev.now _)

/-! impl.within -/
theorem within_eq (a b c : Int) : impl_within.f a b c = some (decide (b ≤ a ∧ a ≤ c)) := by
  unfold impl_within.f
  by_cases h : b ≤ a
  · rw [if_pos h]; simp [h]
  · rw [if_neg h]; simp [h]

/-! impl.sum -/
theorem isum_l0 (l : List Int) (hl : l.length ≤ 9223372036854775806) : ∀ (d i : Nat) (acc : Int), d + i = l.length → Ev (fun k => impl_sum.l0 k acc l (l.length : Int) i) (wsum acc (l.drop i)) := by
  intro d
  induction d with
  | zero =>
    intro i acc hd
    apply Ev.succ
    simp only [impl_sum.l0, if_neg (show ¬ (i : Int) < (l.length : Int) by omega)]
    rw [List.drop_of_length_le (by omega)]
    exact Ev.now _
  | succ d ih =>
    intro i acc hd
    have hi : i < l.length := by omega
    apply Ev.succ
    simp only [impl_sum.l0, if_pos (show (i : Int) < (l.length : Int) by omega), if_pos (show 0 ≤ (i : Int) by omega), rd_get hi, w64 (show (-9223372036854775808) ≤ (i : Int) + 1 by omega) (by omega)]
    rw [List.drop_eq_getElem_cons hi]
    exact ih (i + 1) _ (by omega)
theorem isum_ev (l : List Int) (hl : l.length ≤ 9223372036854775806) : Ev (fun k => impl_sum.f k l) (wsum 0 l) := by
  have := isum_l0 l hl l.length 0 0 (by omega)
  simpa [impl_sum.f] using this

/-! impl.areWithin -/
theorem aw_l0 (l : List Int) (a b : Int) (hl : l.length ≤ 9223372036854775806) : ∀ (d i : Nat), d + i = l.length → ∃ r : Int, Ev (fun k => slices_IndexFunc_int64_int64_impl_areWithin_1.l0 k l (l.length : Int) i a b) r ∧ (decide (r ≥ 0) = !(l.drop i).all fun n => decide (a ≤ n ∧ n ≤ b)) := by
  intro d
  induction d with
  | zero =>
    intro i hd
    refine ⟨-1, ?_, ?_⟩
    · apply Ev.succ
      simp only [slices_IndexFunc_int64_int64_impl_areWithin_1.l0, if_neg (show ¬ (i : Int) < (l.length : Int) by omega)]
      exact Ev.now _
    · rw [List.drop_of_length_le (by omega)]; rfl
  | succ d ih =>
    intro i hd
    have hi : i < l.length := by omega
    obtain ⟨r, hr, he⟩ := ih (i + 1) (by omega)
    by_cases h : a ≤ l[i] ∧ l[i] ≤ b
    · refine ⟨r, ?_, ?_⟩
      · apply Ev.succ
        simp only [slices_IndexFunc_int64_int64_impl_areWithin_1.l0, if_pos (show (i : Int) < (l.length : Int) by omega), if_pos (show 0 ≤ (i : Int) by omega), rd_get hi, impl_areWithin_1.f, within_eq, decide_eq_true h, Option.bind_some, w64 (show (-9223372036854775808) ≤ (i : Int) + 1 by omega) (by omega)]
        simpa using hr
      · rw [he, List.drop_eq_getElem_cons hi, List.all_cons, decide_eq_true h, Bool.true_and]
    · refine ⟨i, ?_, ?_⟩
      · apply Ev.succ
        simp only [slices_IndexFunc_int64_int64_impl_areWithin_1.l0, if_pos (show (i : Int) < (l.length : Int) by omega), if_pos (show 0 ≤ (i : Int) by omega), rd_get hi, impl_areWithin_1.f, within_eq, decide_eq_false h, Option.bind_some]
        simpa using Ev.now _
      · rw [List.drop_eq_getElem_cons hi, List.all_cons, decide_eq_false h, Bool.false_and]; simp
theorem areWithin_ev (l : List Int) (a b : Int) (hl : l.length ≤ 9223372036854775806) : Ev (fun k => impl_areWithin.f k l a b) (l.all fun n => decide (a ≤ n ∧ n ≤ b)) := by
  obtain ⟨r, hr, he⟩ := aw_l0 l a b hl l.length 0 (by omega)
  unfold impl_areWithin.f
  simp only [slices_ContainsFunc_int64_int64_impl_areWithin_1.f, slices_IndexFunc_int64_int64_impl_areWithin_1.f]
  refine Ev.bind (Ev.bind hr (Ev.now _)) ?_
  refine (Ev.now _).to ?_
  rw [he, List.drop_zero, Bool.not_not]

/-! slices.Equal   int64,int64  -/
theorem sleq_l0 (a b : List Int) (hl : a.length = b.length) (hm : a.length ≤ 9223372036854775806) : ∀ (d i : Nat), d + i = a.length → Ev (fun k => slices_Equal_int64_int64.l0 k a b (a.length : Int) i) (decide (a.drop i = b.drop i)) := by
  intro d
  induction d with
  | zero =>
    intro i hd
    apply Ev.succ
    simp only [slices_Equal_int64_int64.l0, if_neg (show ¬ (i : Int) < (a.length : Int) by omega)]
    rw [List.drop_of_length_le (by omega), List.drop_of_length_le (by omega)]
    exact Ev.now _
  | succ d ih =>
    intro i hd
    have hi : i < a.length := by omega
    have hi' : i < b.length := by omega
    apply Ev.succ
    simp only [slices_Equal_int64_int64.l0, if_pos (show (i : Int) < (a.length : Int) by omega), if_pos (show 0 ≤ (i : Int) by omega), if_pos (show (i : Int) < (b.length : Int) by omega), rd_get hi, rd_get hi', w64 (show (-9223372036854775808) ≤ (i : Int) + 1 by omega) (by omega)]
    rw [List.drop_eq_getElem_cons hi, List.drop_eq_getElem_cons hi']
    by_cases h : a[i] = b[i]
    · simp only [if_pos h]
      exact (ih (i + 1) (by omega)).to (by simp only [List.cons.injEq, h, true_and])
    · simp only [if_neg h]
      exact (Ev.now _).to (by simp only [List.cons.injEq, h, false_and, decide_false])
theorem slEqual_ev (a b : List Int) (hm : a.length ≤ 9223372036854775806) : Ev (fun k => slices_Equal_int64_int64.f k a b) (decide (a = b)) := by
  unfold slices_Equal_int64_int64.f
  by_cases h : a.length = b.length
  · simp only [if_pos (show (a.length : Int) = (b.length : Int) by omega)]
    simpa using sleq_l0 a b h hm a.length 0 (by omega)
  · simp only [if_neg (show ¬ (a.length : Int) = (b.length : Int) by omega)]
    exact (Ev.now _).to (by symm; simp; intro e; exact h (by rw [e]))

/-! impl.ValidMixture -/
theorem rdl_get7 {xs : List (List Int)} {i : Nat} (h : i < xs.length) : rd_L1 xs (i : Int) = xs.getD i [] := by
  unfold rd_L1; simp
theorem rdl_head7 (xs : List (List Int)) : rd_L1 xs 0 = xs.headD [] := by
  unfold rd_L1; cases xs <;> rfl
theorem rdl_get8 {xs : List (List Int)} {i : Nat} (h : i < xs.length) : rd_L1 xs (i : Int) = xs[i] := by
  unfold rd_L1; exact getD_get h
def imRow (ls : List (List Int)) (i : Nat) : Bool := !((ls.take i).any fun r => decide (r = ls.getD i [])) && (decide ((ls.getD i []).length = (ls.headD []).length) && (decide ((ls.getD i []).length ≤ 40) && (ls.getD i []).all fun x => decide (-1000000 ≤ x ∧ x ≤ 1000000)))
theorem vm1_ev (r : List Int) (x : List Int) (hr : r.length ≤ 1048576) : Ev (fun k => impl_ValidMixture_1.f k r x) (decide (r = x)) := by
  unfold impl_ValidMixture_1.f
  exact Ev.bind (slEqual_ev r x (by omega)) (Ev.now _)
theorem vmC_ev (l : List (List Int)) (x : List Int) (hl : l.length ≤ 1048576) (hr : ∀ r ∈ l, r.length ≤ 1048576) : Ev (fun k => slices_ContainsFunc_int64_int64_impl_ValidMixture_1.f k l x) (l.any fun r => decide (r = x)) := by
  obtain ⟨r, hr1, hr2⟩ := find_loop l (fun r => decide (r = x)) (fun k j => slices_IndexFunc_int64_int64_impl_ValidMixture_1.l0 k l (l.length : Int) j x)
    (by
      apply Ev.succ
      simp only [slices_IndexFunc_int64_int64_impl_ValidMixture_1.l0, if_neg (show ¬ (l.length : Int) < l.length by omega)]
      exact Ev.now _)
    (fun i hi hp => by
      apply Ev.succ
      simp only [slices_IndexFunc_int64_int64_impl_ValidMixture_1.l0, if_pos (show (i : Int) < (l.length : Int) by omega), if_pos (show 0 ≤ (i : Int) by omega), rdl_get8 hi]
      refine Ev.bind (vm1_ev l[i] x (hr _ (List.getElem_mem hi))) ?_
      simp only [hp, if_true]
      exact Ev.now _)
    (fun i hi hp r hr' => by
      apply Ev.succ
      simp only [slices_IndexFunc_int64_int64_impl_ValidMixture_1.l0, if_pos (show (i : Int) < (l.length : Int) by omega), if_pos (show 0 ≤ (i : Int) by omega), rdl_get8 hi]
      refine Ev.bind (vm1_ev l[i] x (hr _ (List.getElem_mem hi))) ?_
      simp only [hp, Bool.false_eq_true, if_false, inc hi (by omega)]
      exact hr')
  simp only [slices_ContainsFunc_int64_int64_impl_ValidMixture_1.f, slices_IndexFunc_int64_int64_impl_ValidMixture_1.f]
  refine Ev.bind hr1 ?_
  refine (Ev.now _).to ?_
  rw [hr2]
theorem im_l0 (ws : List Int) (ls : List (List Int)) (hl : ls.length ≤ 64) (hr : ∀ r ∈ ls, r.length ≤ 1048576) : Ev (fun k => impl_ValidMixture.l0 k ls (ls.length : Int) 0 ws ls) ((List.range ls.length).all (imRow ls)) := by
  have := all_step ls.length (imRow ls) (fun k i => impl_ValidMixture.l0 k ls (ls.length : Int) i ws ls) (r := true) ?_ ?_
  · rw [Bool.and_true] at this
    exact this
  · apply Ev.succ
    simp only [impl_ValidMixture.l0, if_neg (show ¬ (ls.length : Int) < ls.length by omega)]
    exact Ev.now _
  · intro i hi s hs
    have hm := hr (ls.getD i []) (by simp [List.getD_eq_getElem?_getD, hi])
    apply Ev.succ
    simp only [impl_ValidMixture.l0, if_pos (show (i : Int) < ls.length by omega), if_pos (show 0 ≤ (i : Int) by omega), if_pos (show (i : Int) ≤ ls.length by omega), rdl_get7 hi, rdl_head7, Int.toNat_natCast]
    refine Ev.bind (vmC_ev (ls.take i) (ls.getD i []) (by simp; omega) (fun r h => hr r (List.mem_of_mem_take h))) ?_
    unfold imRow
    cases (ls.take i).any fun r => decide (r = ls.getD i []) with
    | true =>
      simp only [if_true, Bool.not_true, Bool.false_and]
      exact Ev.now _
    | false =>
      simp only [Bool.false_eq_true, if_false, Bool.not_false, Bool.true_and, if_pos (show 0 < (ls.length : Int) by omega)]
      by_cases e2 : (ls.getD i []).length = (ls.headD []).length
      · simp only [if_pos (show ((ls.getD i []).length : Int) = (ls.headD []).length by omega), decide_eq_true e2, Bool.true_and]
        by_cases e3 : (ls.getD i []).length ≤ 40
        · simp only [if_neg (show ¬ ((ls.getD i []).length : Int) > 40 by omega), decide_eq_true e3, Bool.true_and]
          refine Ev.bind (areWithin_ev (ls.getD i []) (-1000000) 1000000 (by omega)) ?_
          cases (ls.getD i []).all fun n => decide (-1000000 ≤ n ∧ n ≤ 1000000) with
          | true =>
            simp only [if_true, Bool.true_and, inc hi (by omega)]
            exact hs
          | false =>
            simp only [Bool.false_eq_true, if_false, Bool.false_and]
            exact Ev.now _
        · simp only [if_pos (show ((ls.getD i []).length : Int) > 40 by omega), decide_eq_false e3, Bool.false_and]
          exact Ev.now _
      · simp only [if_neg (show ¬ ((ls.getD i []).length : Int) = (ls.headD []).length by omega), decide_eq_false e2, Bool.false_and]
        exact Ev.now _
theorem im_rows (ls : List (List Int)) (h : 1 ≤ ls.length) : (List.range ls.length).all (imRow ls) = (decide ((ls.headD []).length ≤ 40) && (List.range ls.length).all (mxRow ls)) := by
  have hd : ls.getD 0 [] = ls.headD [] := by cases ls <;> rfl
  have tk : ∀ i, i < ls.length → ((ls.take i).any fun r => decide (r = ls.getD i [])) = !((List.range i).all fun j => !decide (ls.getD j [] = ls.getD i [])) := by
    intro i hi
    have := all_range (ls.take i) (fun r => !decide (r = ls.getD i [])) []
    rw [List.length_take, Nat.min_eq_left (by omega)] at this
    rw [show ((List.range i).all fun j => !decide (ls.getD j [] = ls.getD i [])) = (ls.take i).all (fun r => !decide (r = ls.getD i [])) from ?_]
    · generalize ls.getD i [] = x
      induction (ls.take i) with
      | nil => rfl
      | cons y l ih => rw [List.any_cons, List.all_cons, ih, Bool.not_and, Bool.not_not]
    · rw [← this]
      rw [Bool.eq_iff_iff, List.all_eq_true, List.all_eq_true]
      refine forall_congr' fun j => forall_congr' fun hj => ?_
      have hj' : j < i := by simpa using hj
      have : (ls.take i).getD j [] = ls.getD j [] := by simp [List.getD_eq_getElem?_getD, List.getElem?_take, hj']
      rw [this]
  rw [Bool.eq_iff_iff, Bool.and_eq_true, List.all_eq_true, List.all_eq_true, decide_eq_true_iff]
  constructor
  · intro a
    refine ⟨?_, fun i hi => ?_⟩
    · have := a 0 (List.mem_range.2 (by omega))
      simp only [imRow, Bool.and_eq_true, decide_eq_true_eq, hd] at this
      exact this.2.2.1
    · have hi' : i < ls.length := by simpa using hi
      have := a i hi
      simp only [imRow, tk i hi', Bool.not_not, Bool.and_eq_true, decide_eq_true_eq] at this
      simp only [mxRow, Bool.and_eq_true, decide_eq_true_eq]
      exact ⟨this.2.1, this.2.2.2, this.1⟩
  · rintro ⟨a, b⟩ i hi
    have hi' : i < ls.length := by simpa using hi
    have := b i hi
    simp only [mxRow, Bool.and_eq_true, decide_eq_true_eq] at this
    simp only [imRow, tk i hi', Bool.not_not, Bool.and_eq_true, decide_eq_true_eq]
    exact ⟨this.2.2, this.1, by omega, this.2.1⟩
theorem iVM_ev (ws : List Int) (ls : List (List Int)) (hw : ws.length ≤ 1048576) (hl : ls.length ≤ 1048576) (hr : ∀ r ∈ ls, r.length ≤ 1048576) : Ev (fun k => impl_ValidMixture.f k ws ls) (VM ws ls) := by
  unfold impl_ValidMixture.f VM
  simp only [within_eq, impl_size_int64.f, Option.bind_some]
  by_cases h1 : 1 ≤ (ls.length : Int) ∧ (ls.length : Int) ≤ 64
  · by_cases h2 : ws.length = ls.length
    · simp only [decide_eq_true h1, decide_eq_true h2, if_true, if_pos (show (ws.length : Int) = ls.length by omega), Bool.true_and]
      refine Ev.bind (areWithin_ev ws 1 1000000 (by omega)) ?_
      have e : mxW ws = ws.all fun n => decide (1 ≤ n ∧ n ≤ 1000000) := rfl
      rw [← e]
      cases mxW ws with
      | true =>
        simp only [if_true, Bool.true_and]
        refine Ev.bind (isum_ev ws (by omega)) ?_
        apply Ev.succ
        by_cases h4 : wsum 0 ws ≤ 1000000
        · simp only [impl_ValidMixture.j0, decide_eq_false (show ¬ wsum 0 ws > 1000000 by omega), Bool.false_eq_true, if_false, decide_eq_true h4, Bool.and_true]
          exact (im_l0 ws ls (by omega) hr).to (im_rows ls (by omega))
        · simp only [impl_ValidMixture.j0, decide_eq_true (show wsum 0 ws > 1000000 by omega), if_true, decide_eq_false h4, Bool.and_false]
          exact Ev.now _
      | false =>
        simp only [Bool.false_eq_true, if_false, Bool.false_and, Bool.and_false]
        apply Ev.succ
        simp only [impl_ValidMixture.j0, if_true]
        exact Ev.now _
    · simp only [decide_eq_true h1, decide_eq_false h2, if_true, if_neg (show ¬ (ws.length : Int) = ls.length by omega), Bool.false_and, Bool.and_false]
      apply Ev.succ
      simp only [impl_ValidMixture.j0, if_true]
      exact Ev.now _
  · simp only [decide_eq_false h1, Bool.false_eq_true, if_false, Bool.false_and]
    apply Ev.succ
    simp only [impl_ValidMixture.j0, if_true]
    exact Ev.now _

/-! impl.ValidValues -/
theorem validValues_ev (den : Int) (vs : List Int) (hv : vs.length ≤ 9223372036854775806) : Ev (fun k => impl_ValidValues.f k den vs) (VV den vs) := by
  unfold impl_ValidValues.f VV
  simp only [within_eq, Option.bind_some]
  by_cases c : 1 ≤ den ∧ den ≤ 1000
  · simp only [decide_eq_true c, if_true, Bool.true_and]
    by_cases c2 : vs.length ≤ 40
    · simp only [decide_eq_true c2, if_pos (show (vs.length : Int) ≤ 40 by omega), Bool.true_and]
      exact Ev.bind (areWithin_ev vs (-1000000) 1000000 hv) (Ev.now _)
    · simp only [decide_eq_false c2, if_neg (show ¬ (vs.length : Int) ≤ 40 by omega), Bool.false_and]
      exact Ev.now _
  · simp only [decide_eq_false c, Bool.false_eq_true, if_false, Bool.false_and]
    exact Ev.now _

/-! impl.floor -/
theorem ifloor_eq {a b : Int} (hb : 0 < b) (h1 : -9223372036854775807 ≤ a) (h2 : a ≤ 9223372036854775807) : impl_floor.f a b = some (a / b) := by
  have r1 := tdiv_range hb h1 h2 (by omega)
  have hf := floorB (a := a) hb
  have e1 : wrap64 (a.tdiv b) = a.tdiv b := w64 (by omega) (by omega)
  unfold impl_floor.f
  rw [if_neg (by omega), e1]
  by_cases h : a.tmod b < 0
  · rw [if_pos h] at hf
    rw [if_pos h, w64 (by omega) (by omega), hf]
  · rw [if_neg h] at hf
    rw [if_neg h, hf]

/-! impl.Values).floors -/
theorem floors_l0 (den : Int) (nums l : List Int) (hd : 1 ≤ den ∧ den ≤ 1000) (hl : l.length ≤ 1048576) (hv : ∀ x ∈ l, -1000000 ≤ x ∧ x ≤ 1000000) : ∀ (e i : Nat), e + i = l.length → Ev (fun k => impl_Values_each_impl_Values_floors_1.l0 k ((l.take i).map fun x => x / den) l (l.length : Int) i den nums) (l.map fun x => x / den) := by
  intro e
  induction e with
  | zero =>
    intro i he
    apply Ev.succ
    simp only [impl_Values_each_impl_Values_floors_1.l0, if_neg (show ¬ (i : Int) < (l.length : Int) by omega)]
    rw [List.take_of_length_le (by omega)]
    exact Ev.now _
  | succ e ih =>
    intro i he
    have hi : i < l.length := by omega
    have hx := hv l[i] (List.getElem_mem hi)
    have := ih (i + 1) (by omega)
    rw [List.take_succ_eq_append_getElem hi, List.map_append] at this
    apply Ev.succ
    simp only [impl_Values_each_impl_Values_floors_1.l0, if_pos (show (i : Int) < (l.length : Int) by omega), if_pos (show 0 ≤ (i : Int) by omega), rd_get hi, impl_Values_floors_1.f, ifloor_eq (show 0 < den by omega) (show -9223372036854775807 ≤ l[i] by omega) (by omega), Option.bind_some, if_pos (show ((l.take i).map fun x => x / den).length < 17592186044416 by simp; omega), inc hi (by omega)]
    exact this
theorem floors_ev (den : Int) (l : List Int) (hd : 1 ≤ den ∧ den ≤ 1000) (hl : l.length ≤ 1048576) (hv : ∀ x ∈ l, -1000000 ≤ x ∧ x ≤ 1000000) : Ev (fun k => impl_Values_floors.f k den l) (l.map fun x => x / den) := by
  have := floors_l0 den l l hd hl hv l.length 0 (by omega)
  unfold impl_Values_floors.f impl_Values_each_impl_Values_floors_1.f
  exact Ev.bind this (Ev.now _)

/-! impl.ceiling -/
theorem iceil_eq {a b : Int} (hb : 0 < b) (h1 : -1000000000000 ≤ a) (h2 : a ≤ 1000000000000) : impl_ceiling.f a b = some (ceilOf a b) := by
  have hr := ceil_range (m := 1000000000000) hb h1 h2 (by omega)
  unfold impl_ceiling.f ceilOf
  rw [w64 (show (-9223372036854775808) ≤ -a by omega) (by omega), ifloor_eq hb (by omega) (by omega), Option.bind_some, w64 (by omega) (by omega)]

/-! impl.Values).ceilings -/
theorem ceilings_l0 (den : Int) (nums l : List Int) (hd : 1 ≤ den ∧ den ≤ 1000) (hl : l.length ≤ 1048576) (hv : ∀ x ∈ l, -1000000 ≤ x ∧ x ≤ 1000000) : ∀ (e i : Nat), e + i = l.length → Ev (fun k => impl_Values_each_impl_Values_ceilings_1.l0 k ((l.take i).map fun x => ceilOf x den) l (l.length : Int) i den nums) (l.map fun x => ceilOf x den) := by
  intro e
  induction e with
  | zero =>
    intro i he
    apply Ev.succ
    simp only [impl_Values_each_impl_Values_ceilings_1.l0, if_neg (show ¬ (i : Int) < (l.length : Int) by omega)]
    rw [List.take_of_length_le (by omega)]
    exact Ev.now _
  | succ e ih =>
    intro i he
    have hi : i < l.length := by omega
    have hx := hv l[i] (List.getElem_mem hi)
    have := ih (i + 1) (by omega)
    rw [List.take_succ_eq_append_getElem hi, List.map_append] at this
    apply Ev.succ
    simp only [impl_Values_each_impl_Values_ceilings_1.l0, if_pos (show (i : Int) < (l.length : Int) by omega), if_pos (show 0 ≤ (i : Int) by omega), rd_get hi, impl_Values_ceilings_1.f, iceil_eq (show 0 < den by omega) (show -1000000000000 ≤ l[i] by omega) (by omega), Option.bind_some, if_pos (show ((l.take i).map fun x => ceilOf x den).length < 17592186044416 by simp; omega), inc hi (by omega)]
    exact this
theorem ceilings_ev (den : Int) (l : List Int) (hd : 1 ≤ den ∧ den ≤ 1000) (hl : l.length ≤ 1048576) (hv : ∀ x ∈ l, -1000000 ≤ x ∧ x ≤ 1000000) : Ev (fun k => impl_Values_ceilings.f k den l) (l.map fun x => ceilOf x den) := by
  have := ceilings_l0 den l l hd hl hv l.length 0 (by omega)
  unfold impl_Values_ceilings.f impl_Values_each_impl_Values_ceilings_1.f
  exact Ev.bind this (Ev.now _)

/-! impl.IsRounding -/
theorem isRounding_ev (den : Int) (nums l : List Int) (hn : nums.length ≤ 1048576) : Ev (fun k => impl_IsRounding.f k den nums l) (VV den nums && RND den nums l) := by
  unfold impl_IsRounding.f
  refine Ev.bind (validValues_ev den nums (by omega)) ?_
  cases hv : VV den nums with
  | false =>
    simp only [Bool.false_eq_true, if_false, Bool.false_and]
    apply Ev.succ
    simp only [impl_IsRounding.j0, if_true]
    exact Ev.now _
  | true =>
    simp only [VV, Bool.and_eq_true, decide_eq_true_eq, List.all_eq_true] at hv
    obtain ⟨hd, hlen, hx⟩ := hv
    simp only [if_true, Bool.true_and]
    unfold RND
    by_cases c : l.length = nums.length
    · rw [show ((l.length : Int) != (nums.length : Int)) = false by simp [c], decide_eq_true c, Bool.true_and]
      apply Ev.succ
      simp only [impl_IsRounding.j0, Bool.false_eq_true, if_false]
      refine Ev.bind (floors_ev den nums hd hn hx) (Ev.bind (ceilings_ev den nums hd hn hx) ?_)
      have h := all_step l.length (rnd1 den nums l) (fun k i => impl_IsRounding.l0 k (nums.map fun x => x / den) (nums.map fun x => ceilOf x den) l (l.length : Int) i) (r := true) ?_ ?_
      · rw [Bool.and_true] at h
        exact h
      · apply Ev.succ
        simp only [impl_IsRounding.l0, if_neg (show ¬ (l.length : Int) < l.length by omega)]
        exact Ev.now _
      · intro i hi s hs
        apply Ev.succ
        simp only [impl_IsRounding.l0, List.length_map, if_pos (show (i : Int) < l.length by omega), if_pos (show 0 ≤ (i : Int) by omega), if_pos (show (i : Int) < nums.length by omega), rrd, getD_map (fun x => x / den) 0 0 (show i < nums.length by omega), getD_map (fun x => ceilOf x den) 0 0 (show i < nums.length by omega)]
        unfold rnd1
        by_cases e1 : l.getD i 0 = nums.getD i 0 / den
        · simp only [if_pos e1, decide_eq_true e1, Bool.true_or, Bool.true_and, inc hi (by omega)]
          exact hs
        · simp only [if_neg e1, decide_eq_false e1, Bool.false_or]
          by_cases e2 : l.getD i 0 = ceilOf (nums.getD i 0) den
          · simp only [if_pos e2, decide_eq_true e2, Bool.true_and, inc hi (by omega)]
            exact hs
          · simp only [if_neg e2, decide_eq_false e2, Bool.false_and]
            exact Ev.now _
    · rw [show ((l.length : Int) != (nums.length : Int)) = true by simp; omega, decide_eq_false c, Bool.false_and]
      apply Ev.succ
      simp only [impl_IsRounding.j0, if_true]
      exact Ev.now _

/-! impl.Mixture).totals -/
theorem mt_dl {xs : List (List Int)} {i : Nat} : rd_L1 xs (i : Int) = xs.getD i [] := by
  unfold rd_L1; simp
theorem mt_d0 (xs : List (List Int)) : rd_L1 xs 0 = xs.headD [] := by
  unfold rd_L1; cases xs <;> rfl
theorem mt_l1 (W : List Int) (L : List (List Int)) (h : MB W L) (i : Nat) (n : Nat) (hi : i < L.length) (hn : (L.getD i []).length = n) (hs : n ≤ 1048576) {R : List Int} (hR : Ev (fun k => impl_Mixture_totals.l0 k (stair (mcol W L) n (i + 1) 0) L (L.length : Int) (wrap64 ((i : Int) + 1)) W L) R) : ∀ (d j : Nat), d + j = n → Ev (fun k => impl_Mixture_totals.l1 k (stair (mcol W L) n i j) i L (L.length : Int) i (L.getD i []) (n : Int) j W L) R := by
  intro d
  induction d with
  | zero =>
    intro j hd
    apply Ev.succ
    simp only [impl_Mixture_totals.l1, if_neg (show ¬ (j : Int) < (n : Int) by omega)]
    rw [show j = n by omega, stair_end]
    exact hR
  | succ d ih =>
    intro j hd
    have hw := h.1
    apply Ev.succ
    simp only [impl_Mixture_totals.l1, stair_length, hn, if_pos (show (j : Int) < (n : Int) by omega), if_pos (show 0 ≤ (j : Int) by omega), if_pos (show 0 ≤ (i : Int) by omega), if_pos (show (i : Int) < (W.length : Int) by omega), mrd, Int.toNat_natCast, inc (show j < n by omega) (by omega)]
    rw [stair_get _ _ _ _ _ (show j < n by omega), if_neg (show ¬ j < j by omega), mb_wrap h i j hi, stair_set _ _ _ _ (show j < n by omega)]
    exact ih (j + 1) (by omega)
theorem mt_l0 (W : List Int) (L : List (List Int)) (h : MB W L) (n : Nat) (hl : L.length ≤ 1048576) (hn : ∀ i, i < L.length → (L.getD i []).length = n) (hs : n ≤ 1048576) : ∀ (d i : Nat), d + i = L.length → Ev (fun k => impl_Mixture_totals.l0 k (stair (mcol W L) n i 0) L (L.length : Int) i W L) (stair (mcol W L) n L.length 0) := by
  intro d
  induction d with
  | zero =>
    intro i hd
    apply Ev.succ
    simp only [impl_Mixture_totals.l0, if_neg (show ¬ (i : Int) < (L.length : Int) by omega)]
    rw [show i = L.length by omega]
    exact Ev.now _
  | succ d ih =>
    intro i hd
    apply Ev.succ
    simp only [impl_Mixture_totals.l0, if_pos (show (i : Int) < (L.length : Int) by omega), if_pos (show 0 ≤ (i : Int) by omega), mt_dl, hn i (show i < L.length by omega)]
    refine mt_l1 W L h i n (by omega) (hn i (by omega)) hs ?_ n 0 (by omega)
    rw [inc (show i < L.length by omega) (by omega)]
    exact ih (i + 1) (by omega)
theorem totals_ev (W : List Int) (L : List (List Int)) (h : MB W L) (h0 : 0 < L.length) (hl : L.length ≤ 1048576) (hn : ∀ i, i < L.length → (L.getD i []).length = (L.headD []).length) (hs : (L.headD []).length ≤ 1048576) : Ev (fun k => impl_Mixture_totals.f k W L) (mtot W L) := by
  simp only [impl_Mixture_totals.f, if_pos (show 0 < (L.length : Int) by omega), mt_d0, if_pos (show 0 ≤ ((L.headD []).length : Int) by omega), Int.toNat_natCast, if_pos (show (L.headD []).length ≤ 35184372088832 by omega)]
  rw [mcol_first W L]
  exact (mt_l0 W L h (L.headD []).length hl hn hs L.length 0 (by omega)).to (mcol_last W L)

/-! laws.eqValues -/
theorem eqValues_ev (d : Int) (a : List Int) (ha : a.length ≤ 9223372036854775806) : Ev (fun k => laws_eqValues.f k d a d a) true := by
  simp only [laws_eqValues.f, if_true]
  refine Ev.bind (eqInt64S_ev a a ha) ?_
  simp only [decide_true, if_true]
  exact Ev.now _

/-! the law -/
theorem mo_dl {xs : List (List Int)} {i : Nat} (h : i < xs.length) : rd_L1 xs (i : Int) = xs[i] := by
  unfold rd_L1; exact getD_get h
theorem mo_dl2 {xs : List (List Int)} {i : Nat} : rd_L1 xs (i : Int) = xs.getD i [] := by
  unfold rd_L1; simp
theorem moC_ev (den : Int) (nums : List Int) (ls : List (List Int)) (hn : nums.length ≤ 1048576) (hl : ls.length ≤ 1048576) : Ev (fun k => slices_ContainsFunc_int64_int64_impl_IsMixtureOf_1.f k ls den nums) (!ls.all fun r => VV den nums && RND den nums r) := by
  rw [← any_not]
  have h1 : ∀ r, Ev (fun k => impl_IsMixtureOf_1.f k r den nums) (!(VV den nums && RND den nums r)) := by
    intro r
    unfold impl_IsMixtureOf_1.f
    exact Ev.bind (isRounding_ev den nums r hn) (Ev.now _)
  obtain ⟨r, hr1, hr2⟩ := find_loop ls (fun r => !(VV den nums && RND den nums r)) (fun k j => slices_IndexFunc_int64_int64_impl_IsMixtureOf_1.l0 k ls (ls.length : Int) j den nums)
    (by
      apply Ev.succ
      simp only [slices_IndexFunc_int64_int64_impl_IsMixtureOf_1.l0, if_neg (show ¬ (ls.length : Int) < ls.length by omega)]
      exact Ev.now _)
    (fun i hi hp => by
      apply Ev.succ
      simp only [slices_IndexFunc_int64_int64_impl_IsMixtureOf_1.l0, if_pos (show (i : Int) < (ls.length : Int) by omega), if_pos (show 0 ≤ (i : Int) by omega), mo_dl hi]
      refine Ev.bind (h1 ls[i]) ?_
      simp only [hp, if_true]
      exact Ev.now _)
    (fun i hi hp r hr' => by
      apply Ev.succ
      simp only [slices_IndexFunc_int64_int64_impl_IsMixtureOf_1.l0, if_pos (show (i : Int) < (ls.length : Int) by omega), if_pos (show 0 ≤ (i : Int) by omega), mo_dl hi]
      refine Ev.bind (h1 ls[i]) ?_
      simp only [hp, Bool.false_eq_true, if_false, inc hi (by omega)]
      exact hr')
  simp only [slices_ContainsFunc_int64_int64_impl_IsMixtureOf_1.f, slices_IndexFunc_int64_int64_impl_IsMixtureOf_1.f]
  refine Ev.bind hr1 ?_
  refine (Ev.now _).to ?_
  rw [hr2]
def moEq (tot nums : List Int) (t den : Int) (i : Nat) : Bool := decide (wrap64 (tot.getD i 0 * den) = wrap64 (nums.getD i 0 * t))
theorem mo_s1 (ws : List Int) (ls : List (List Int)) (den : Int) (nums tot : List Int) (hw : ws.length ≤ 1048576) (hlen : tot.length = nums.length) (hn : nums.length ≤ 1048576) : Ev (fun k => spec_IsMixtureOf.l1 k tot 0 ws ls den nums) ((List.range tot.length).all (moEq tot nums (wsum 0 ws) den)) := by
  have h := all_step tot.length (moEq tot nums (wsum 0 ws) den) (fun k i => spec_IsMixtureOf.l1 k tot i ws ls den nums) (r := true) ?_ ?_
  · rw [Bool.and_true] at h
    exact h
  · apply Ev.succ
    simp only [spec_IsMixtureOf.l1, if_neg (show ¬ (tot.length : Int) < tot.length by omega)]
    exact Ev.now _
  · intro i hi s hs
    apply Ev.succ
    simp only [spec_IsMixtureOf.l1, if_pos (show (i : Int) < tot.length by omega), if_pos (show 0 ≤ (i : Int) by omega), if_pos (show (i : Int) < nums.length by omega), mrd]
    refine Ev.bind (ssum_ev ws (by omega)) ?_
    unfold moEq
    by_cases e : wrap64 (tot.getD i 0 * den) = wrap64 (nums.getD i 0 * wsum 0 ws)
    · simp only [if_pos e, decide_eq_true e, Bool.true_and, inc hi (by omega)]
      exact hs
    · simp only [if_neg e, decide_eq_false e, Bool.false_and]
      exact Ev.now _
theorem mo_i1 (ws : List Int) (ls : List (List Int)) (den : Int) (nums tot : List Int) (hw : ws.length ≤ 1048576) (hlen : tot.length = nums.length) (hn : nums.length ≤ 1048576) : Ev (fun k => impl_IsMixtureOf.l0 k tot (tot.length : Int) 0 ws ls den nums) ((List.range tot.length).all (moEq tot nums (wsum 0 ws) den)) := by
  have h := all_step tot.length (moEq tot nums (wsum 0 ws) den) (fun k i => impl_IsMixtureOf.l0 k tot (tot.length : Int) i ws ls den nums) (r := true) ?_ ?_
  · rw [Bool.and_true] at h
    exact h
  · apply Ev.succ
    simp only [impl_IsMixtureOf.l0, if_neg (show ¬ (tot.length : Int) < tot.length by omega)]
    exact Ev.now _
  · intro i hi s hs
    apply Ev.succ
    simp only [impl_IsMixtureOf.l0, if_pos (show (i : Int) < tot.length by omega), if_pos (show 0 ≤ (i : Int) by omega), if_pos (show (i : Int) < nums.length by omega), mrd]
    refine Ev.bind (isum_ev ws (by omega)) ?_
    unfold moEq
    by_cases e : wrap64 (tot.getD i 0 * den) = wrap64 (nums.getD i 0 * wsum 0 ws)
    · simp only [if_pos e, decide_eq_true e, Bool.true_and, inc hi (by omega)]
      exact hs
    · simp only [if_neg e, decide_eq_false e, Bool.false_and]
      exact Ev.now _
theorem mo_both (ws : List Int) (ls : List (List Int)) (den : Int) (nums : List Int) (hw : ws.length ≤ 1048576) (hl : ls.length ≤ 1048576) (hr : ∀ r ∈ ls, r.length ≤ 1048576) (hn : nums.length ≤ 1048576) : ∃ r : Bool, Ev (fun k => spec_IsMixtureOf.f k ws ls den nums) r ∧ Ev (fun k => impl_IsMixtureOf.f k ws ls den nums) r := by
  unfold spec_IsMixtureOf.f impl_IsMixtureOf.f
  cases h : VM ws ls with
  | false =>
    refine ⟨false, Ev.bind ((l06Is_ev ws ls hw hl hr).to h) ?_, Ev.bind ((iVM_ev ws ls hw hl hr).to h) ?_⟩
    · simp only [Bool.false_eq_true, if_false]
      apply Ev.succ
      simp only [spec_IsMixtureOf.j0, if_true]
      exact Ev.now _
    · simp only [Bool.false_eq_true, if_false]
      apply Ev.succ
      simp only [impl_IsMixtureOf.j0, if_true]
      exact Ev.now _
  | true =>
    obtain ⟨f1, f2, f3, f4, f5, f6, f7⟩ := vm_facts h
    have hs : wsum 0 ws = ws.sum := by
      rw [wsum_eq 1000000 ws 0 (fun x hx => by have := f5 x hx; omega) (by omega) (by omega) (by omega)]; omega
    have hmono := psum_mono ws (fun w hw' => (f5 w hw').1)
    have hall := psum_all ws
    have hz := psum_zero ws
    rw [hs] at f7
    have hps : ∀ i, i ≤ ws.length → psum ws i ≤ 1000000 := by
      intro i hi
      have b := hmono (ws.length - i) i (by omega)
      rw [show i + (ws.length - i) = ws.length by omega, hall] at b
      omega
    have hMB : MB ws ls := ⟨f3, fun w hw' => (f5 w hw').1, hps, fun i hi => (f6 i hi).2⟩
    have hhl : ∀ i, i < ls.length → (ls.getD i []).length = (ls.headD []).length := fun i hi => (f6 i hi).1
    have hC := moC_ev den nums ls hn hl
    cases hv : VV den nums with
    | false =>
      refine ⟨false, Ev.bind ((l06Is_ev ws ls hw hl hr).to h) ?_, Ev.bind ((iVM_ev ws ls hw hl hr).to h) ?_⟩
      · simp only [if_true]
        refine Ev.bind ((l01Is_ev den nums (by omega)).to hv) ?_
        apply Ev.succ
        simp only [spec_IsMixtureOf.j0, Bool.not_false, if_true]
        exact Ev.now _
      · simp only [if_true]
        refine Ev.bind (hC.to (r' := true) ?_) ?_
        · cases ls with
          | nil => simp at f1
          | cons a b => simp [hv]
        · apply Ev.succ
          simp only [impl_IsMixtureOf.j0, if_true]
          exact Ev.now _
    | true =>
      have hv2 := hv
      simp only [VV, Bool.and_eq_true, decide_eq_true_eq, List.all_eq_true] at hv2
      obtain ⟨hd, hlen40, hx⟩ := hv2
      have hCe : (!ls.all fun r => VV den nums && RND den nums r) = !((List.range ls.length).all fun i => RND den nums (ls.getD i [])) := by
        rw [all_range ls (RND den nums) []]
        simp only [hv, Bool.true_and]
      refine ⟨if ((List.range ls.length).all fun i => RND den nums (ls.getD i [])) = true then ((List.range (mtot ws ls).length).all (moEq (mtot ws ls) nums (wsum 0 ws) den)) else false, Ev.bind ((l06Is_ev ws ls hw hl hr).to h) ?_, Ev.bind ((iVM_ev ws ls hw hl hr).to h) ?_⟩
      · simp only [if_true]
        refine Ev.bind ((l01Is_ev den nums (by omega)).to hv) ?_
        apply Ev.succ
        simp only [spec_IsMixtureOf.j0, Bool.not_true, Bool.false_eq_true, if_false]
        refine loopC ls.length (fun i => RND den nums (ls.getD i [])) (fun k i => spec_IsMixtureOf.l0 k i ws ls den nums) ?_ ?_ ?_
        · intro ha
          have h0 := List.all_eq_true.1 ha 0 (List.mem_range.2 (by omega))
          simp only [RND, Bool.and_eq_true, decide_eq_true_eq] at h0
          have hh0 := hhl 0 (by omega)
          apply Ev.succ
          simp only [spec_IsMixtureOf.l0, if_neg (show ¬ (ls.length : Int) < ls.length by omega)]
          refine Ev.bind (l06Sums_ev ws ls hMB (by omega) hl hhl (by omega)) ?_
          exact mo_s1 ws ls den nums (mtot ws ls) hw (by rw [mtot_length, ← hh0]; exact h0.1) hn
        · intro i hi hp
          apply Ev.succ
          simp only [spec_IsMixtureOf.l0, if_pos (show (i : Int) < ls.length by omega), if_pos (show 0 ≤ (i : Int) by omega), mo_dl2]
          refine Ev.bind ((rounds_ev den nums (ls.getD i []) hd hx hn).to hp) ?_
          simp only [Bool.false_eq_true, if_false]
          exact Ev.now _
        · intro i hi hp s hs
          apply Ev.succ
          simp only [spec_IsMixtureOf.l0, if_pos (show (i : Int) < ls.length by omega), if_pos (show 0 ≤ (i : Int) by omega), mo_dl2]
          refine Ev.bind ((rounds_ev den nums (ls.getD i []) hd hx hn).to hp) ?_
          simp only [if_true, inc hi (by omega)]
          exact hs
      · simp only [if_true]
        refine Ev.bind (hC.to hCe) ?_
        cases ha : (List.range ls.length).all fun i => RND den nums (ls.getD i []) with
        | false =>
          apply Ev.succ
          simp only [impl_IsMixtureOf.j0, Bool.not_false, if_true, Bool.false_eq_true, if_false]
          exact Ev.now _
        | true =>
          have h0 := List.all_eq_true.1 ha 0 (List.mem_range.2 (by omega))
          simp only [RND, Bool.and_eq_true, decide_eq_true_eq] at h0
          have hh0 := hhl 0 (by omega)
          apply Ev.succ
          simp only [impl_IsMixtureOf.j0, Bool.not_true, Bool.false_eq_true, if_false, if_true]
          refine Ev.bind (totals_ev ws ls hMB (by omega) hl hhl (by omega)) ?_
          exact mo_i1 ws ls den nums (mtot ws ls) hw (by rw [mtot_length, ← hh0]; exact h0.1) hn
theorem FnExactIsMixtureOf : laws_FnExactIsMixtureOf.Pure := by
  intro w l d v hw _ hl hr _ hv _
  apply Ev.rounds
  unfold laws_FnExactIsMixtureOf.f
  obtain ⟨s, hs, hs2⟩ := szMixture_ev w l hw hl (fun r h => (hr r h).1) 1048576 (by omega) (by omega)
  refine Ev.bind hs ?_
  rcases hs2 with rfl | ⟨h0, h1, h2, h3, h4⟩
  · simp only [if_pos (show (-1 : Int) < 0 by omega)]
    exact Ev.now _
  · simp only [if_neg (show ¬ s < 0 by omega)]
    obtain ⟨q, hq, hq2⟩ := szValues_ev d v s hv h0 h1
    simp only [hq, Option.bind_some]
    rcases hq2 with rfl | ⟨q0, q1, q2⟩
    · simp only [if_pos (show (-1 : Int) < 0 by omega)]
      exact Ev.now _
    · simp only [if_neg (show ¬ q < 0 by omega)]
      have ht := toMixture_ev w l h2 h3 h4
      have htv := toValues_ev d v q2
      obtain ⟨r, hsp, hi⟩ := mo_both w l d v h2 h3 h4 q2
      refine Ev.bind ht (Ev.bind htv (Ev.bind hsp (Ev.bind ht (Ev.bind htv (Ev.bind hi ?_)))))
      simp only [bne_self_eq_false, Bool.false_eq_true, if_false]
      refine Ev.bind ht (Ev.bind (eqMixture_ev w l h2 h3 h4) ?_)
      simp only [if_true]
      refine Ev.bind htv (Ev.bind (eqValues_ev d v (by omega)) ?_)
      simp only [if_true]
      exact Ev.now _


end Go.Proofs.Ytlhpejabdmejbaa.Pure
