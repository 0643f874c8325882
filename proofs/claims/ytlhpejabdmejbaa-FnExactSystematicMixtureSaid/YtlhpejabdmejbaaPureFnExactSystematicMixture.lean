/- Proved: the pure half of the law FnExactSystematicMixture: the printed functions answer true, for every input. No condition. -/
import Derived.Test.YtlhpejabdmejbaaPFnExactSystematicMixturex7
import Derived.Test.YtlhpejabdmejbaaBase
import Derived.Test.YtlhpejabdmejbaaLists
import Derived.Test.YtlhpejabdmejbaaMarks
import Derived.Test.YtlhpejabdmejbaaMarksS
import Derived.Test.YtlhpejabdmejbaaPsum
import Derived.Test.YtlhpejabdmejbaaMix
import Derived.Test.YtlhpejabdmejbaaCeil
import Derived.Test.YtlhpejabdmejbaaRnd
import Derived.Test.YtlhpejabdmejbaaPair
import Derived.Test.YtlhpejabdmejbaaTables
import Derived.Test.YtlhpejabdmejbaaCut
import Derived.Test.YtlhpejabdmejbaaSys
import Derived.Test.YtlhpejabdmejbaaSorts
namespace Go.Proofs.Ytlhpejabdmejbaa.Pure
open Go.RowKit Go.Proofs.Ytlhpejabdmejbaa.PFnExactSystematicMixture Go.Proofs.YtlhpejabdmejbaaW.PrintWords Go.Proofs.YtlhpejabdmejbaaW.PrintLast Go.Proofs.YtlhpejabdmejbaaW.PrintMore Go.Proofs.Ytlhpejabdmejbaa.Base
set_option linter.unusedVariables false
set_option linter.unusedSimpArgs false

/-! laws.eqInt64S -/
theorem eq_l0 (a b : List Int) (hl : a.length = b.length) (hm : a.length ≤ 9223372036854775806) : ∀ (d i : Nat), d + i = a.length → Ev (fun k => laws_eqInt64S.l0 k a b i) (decide (a.drop i = b.drop i)) := by
  intro d
  induction d with
  | zero =>
    intro i hd
    apply Ev.succ
    simp only [laws_eqInt64S.l0, if_neg (show ¬ (i : Int) < (a.length : Int) by omega)]
    rw [List.drop_of_length_le (by omega), List.drop_of_length_le (by omega)]
    exact Ev.now _
  | succ d ih =>
    intro i hd
    have hi : i < a.length := by omega
    have hi' : i < b.length := by omega
    apply Ev.succ
    simp only [laws_eqInt64S.l0, if_pos (show (i : Int) < (a.length : Int) by omega), if_pos (show 0 ≤ (i : Int) by omega), if_pos (show (i : Int) < (b.length : Int) by omega), rd_get hi, rd_get hi', w64 (show (-9223372036854775808) ≤ (i : Int) + 1 by omega) (by omega)]
    rw [List.drop_eq_getElem_cons hi, List.drop_eq_getElem_cons hi']
    by_cases h : a[i] = b[i]
    · simp only [if_pos h]
      exact (ih (i + 1) (by omega)).to (by simp only [List.cons.injEq, h, true_and])
    · simp only [if_neg h]
      exact (Ev.now _).to (by simp only [List.cons.injEq, h, false_and, decide_false])
theorem eqInt64S_ev (a b : List Int) (hm : a.length ≤ 9223372036854775806) : Ev (fun k => laws_eqInt64S.f k a b) (decide (a = b)) := by
  unfold laws_eqInt64S.f
  by_cases h : a.length = b.length
  · simp only [if_pos (show (a.length : Int) = (b.length : Int) by omega)]
    simpa using eq_l0 a b h hm a.length 0 (by omega)
  · simp only [if_neg (show ¬ (a.length : Int) = (b.length : Int) by omega)]
    exact (Ev.now _).to (by symm; simp; intro e; exact h (by rw [e]))

/-! laws.eqInt64SS -/
theorem rdl_get3 {xs : List (List Int)} {i : Nat} (h : i < xs.length) : rd_L1 xs (i : Int) = xs[i] := by
  unfold rd_L1; exact getD_get h
theorem eqss_l0 (a b : List (List Int)) (hl : a.length = b.length) (hm : a.length ≤ 9223372036854775806) (hr : ∀ r ∈ a, r.length ≤ 9223372036854775806) : ∀ (d i : Nat), d + i = a.length → Ev (fun k => laws_eqInt64SS.l0 k a b i) (decide (a.drop i = b.drop i)) := by
  intro d
  induction d with
  | zero =>
    intro i hd
    apply Ev.succ
    simp only [laws_eqInt64SS.l0, if_neg (show ¬ (i : Int) < (a.length : Int) by omega)]
    rw [List.drop_of_length_le (by omega), List.drop_of_length_le (by omega)]
    exact Ev.now _
  | succ d ih =>
    intro i hd
    have hi : i < a.length := by omega
    have hi' : i < b.length := by omega
    apply Ev.succ
    simp only [laws_eqInt64SS.l0, if_pos (show (i : Int) < (a.length : Int) by omega), if_pos (show 0 ≤ (i : Int) by omega), if_pos (show (i : Int) < (b.length : Int) by omega), rdl_get3 hi, rdl_get3 hi', w64 (show (-9223372036854775808) ≤ (i : Int) + 1 by omega) (by omega)]
    rw [List.drop_eq_getElem_cons hi, List.drop_eq_getElem_cons hi']
    refine Ev.bind (eqInt64S_ev a[i] b[i] (hr _ (List.getElem_mem hi))) ?_
    by_cases h : a[i] = b[i]
    · simp only [decide_eq_true h, if_true]
      exact (ih (i + 1) (by omega)).to (by simp only [List.cons.injEq, h, true_and])
    · simp only [decide_eq_false h, Bool.false_eq_true, if_false]
      exact (Ev.now _).to (by simp only [List.cons.injEq, h, false_and, decide_false])
theorem eqInt64SS_ev (a b : List (List Int)) (hm : a.length ≤ 9223372036854775806) (hr : ∀ r ∈ a, r.length ≤ 9223372036854775806) : Ev (fun k => laws_eqInt64SS.f k a b) (decide (a = b)) := by
  unfold laws_eqInt64SS.f
  by_cases h : a.length = b.length
  · simp only [if_pos (show (a.length : Int) = (b.length : Int) by omega)]
    simpa using eqss_l0 a b h hm hr a.length 0 (by omega)
  · simp only [if_neg (show ¬ (a.length : Int) = (b.length : Int) by omega)]
    exact (Ev.now _).to (by symm; simp; intro e; exact h (by rw [e]))

/-! laws.eqMixture -/
theorem eqMixture_ev (ws : List Int) (l : List (List Int)) (hw : ws.length ≤ 1048576) (hl : l.length ≤ 1048576) (hr : ∀ r ∈ l, r.length ≤ 1048576) : Ev (fun k => laws_eqMixture.f k ws l ws l) true := by
  unfold laws_eqMixture.f
  refine Ev.bind (eqInt64S_ev ws ws (by omega)) ?_
  simp only [decide_true, if_true]
  refine Ev.bind (eqInt64SS_ev l l (by omega) (fun r h => by have := hr r h; omega)) ?_
  simp only [decide_true, if_true]
  exact Ev.now _

/-! laws.markInt64S -/
theorem mark_l0 (l : List Int) (m : Int) (hl : l.length ≤ 140737488355328) (h0 : 0 ≤ m) (h1 : m ≤ 4611686018427387904) : ∀ (d i : Nat), d + i = l.length → Ev (fun k => laws_markInt64S.l0 k (MARKS m i ++ l.drop i) (m + (i : Int)) i) (m + (l.length : Int), MARKS m l.length) := by
  intro d
  induction d with
  | zero =>
    intro i hd
    apply Ev.succ
    simp only [laws_markInt64S.l0, if_neg (show ¬ (i : Int) < ((MARKS m i ++ l.drop i).length : Int) by simp [MARKS_length]; omega)]
    rw [show i = l.length by omega, List.drop_length, List.append_nil]
    exact Ev.now _
  | succ d ih =>
    intro i hd
    have hi : i < l.length := by omega
    apply Ev.succ
    simp only [laws_markInt64S.l0, if_pos (show (i : Int) < ((MARKS m i ++ l.drop i).length : Int) by simp [MARKS_length]; omega), if_pos (show 0 ≤ (i : Int) by omega), Int.toNat_natCast, marks_step l m i hi, w64 (show (-9223372036854775808) ≤ (i : Int) + 1 by omega) (by omega), w64 (show (-9223372036854775808) ≤ m + (i : Int) + 1 by omega) (by omega)]
    have := ih (i + 1) (by omega)
    rw [Int.natCast_succ, ← Int.add_assoc] at this
    exact this
theorem markInt64S_ev (l : List Int) (m : Int) (hl : l.length ≤ 140737488355328) (h0 : 0 ≤ m) (h1 : m ≤ 4611686018427387904) : Ev (fun k => laws_markInt64S.f k l m) (m + (l.length : Int), MARKS m l.length) := by
  have := mark_l0 l m hl h0 h1 l.length 0 (by omega)
  simpa [laws_markInt64S.f, MARKS] using this

/-! laws.markInt64SS -/
theorem rdl_getM {xs : List (List Int)} {i : Nat} : rd_L1 xs (i : Int) = xs.getD i [] := by
  unfold rd_L1; simp
theorem mssk_l0 (l : List (List Int)) (m : Int) (hl : l.length ≤ 1048576) (hr : ∀ r ∈ l, r.length ≤ 1048576) (h0 : 0 ≤ m) (h1 : m ≤ 100000000000000) : ∀ (d i : Nat), d + i = l.length → Ev (fun k => laws_markInt64SS.l0 k (MSS m (l.take i) ++ l.drop i) (mtot_ m (l.take i)) i) (mtot_ m l, MSS m l) := by
  have hb : ((1048576 : Nat) : Int) * (l.length : Int) ≤ 1099511627776 := by
    have := Int.mul_le_mul_of_nonneg_left (show (l.length : Int) ≤ 1048576 by omega) (show (0 : Int) ≤ ((1048576 : Nat) : Int) by omega)
    omega
  intro d
  induction d with
  | zero =>
    intro i hd
    apply Ev.succ
    simp only [laws_markInt64SS.l0, if_neg (show ¬ (i : Int) < ((MSS m (l.take i) ++ l.drop i).length : Int) by rw [List.length_append, MSS_length]; simp; omega)]
    rw [List.take_of_length_le (by omega), List.drop_of_length_le (by omega), List.append_nil]
    exact Ev.now _
  | succ d ih =>
    intro i hd
    have hi : i < l.length := by omega
    have hm := hr (l.getD i []) (getD_mem hi)
    have hb2 := mtot_mono l m i 1048576 hr (by omega)
    apply Ev.succ
    simp only [laws_markInt64SS.l0, if_pos (show (i : Int) < ((MSS m (l.take i) ++ l.drop i).length : Int) by rw [List.length_append, MSS_length]; simp; omega), if_pos (show 0 ≤ (i : Int) by omega), rdl_getM, MSS_now l m i hi, inc hi (by omega), Int.toNat_natCast]
    refine Ev.bind (markInt64S_ev (l.getD i []) (mtot_ m (l.take i)) (by omega) (by omega) (by omega)) ?_
    simp only [MSS_step l m i hi]
    rw [← mtot_take l m i hi]
    exact ih (i + 1) (by omega)
theorem markSSk_ev (l : List (List Int)) (m : Int) (hl : l.length ≤ 1048576) (hr : ∀ r ∈ l, r.length ≤ 1048576) (h0 : 0 ≤ m) (h1 : m ≤ 100000000000000) : Ev (fun k => laws_markInt64SS.f k l m) (mtot_ m l, MSS m l) := by
  have := mssk_l0 l m hl hr h0 h1 l.length 0 (by omega)
  simpa [laws_markInt64SS.f, MSS, mtot_] using this

/-! laws.markMixture -/
theorem markMixk_ev (ws : List Int) (ls : List (List Int)) (m : Int) (hw : ws.length ≤ 1048576) (hl : ls.length ≤ 1048576) (hr : ∀ r ∈ ls, r.length ≤ 1048576) (h0 : 0 ≤ m) (h1 : m ≤ 1000000000) : Ev (fun k => laws_markMixture.f k ws ls m) (mtot_ (m + (ws.length : Int)) ls, MARKS m ws.length, MSS (m + (ws.length : Int)) ls) := by
  unfold laws_markMixture.f
  exact Ev.bind (markInt64S_ev ws m (by omega) (by omega) (by omega)) (Ev.bind (markSSk_ev ls (m + (ws.length : Int)) hl hr (by omega) (by omega)) (Ev.now _))

/-! laws.szInt64S -/
theorem szS_eq (l : List Int) (a : Int) (hl : l.length ≤ 9223372036854775807) (h0 : 0 ≤ a) (h1 : a ≤ 1048576) : laws_szInt64S.f l a = some (if a < l.length then -1 else a - l.length) := by
  unfold laws_szInt64S.f
  rw [w64 (by omega) (by omega)]
  by_cases h : a < l.length
  · rw [if_pos (by omega), if_pos h]
  · rw [if_neg (by omega), if_neg h]

/-! laws.szValues -/
theorem szValues_ev (d : Int) (l : List Int) (a : Int) (hl : l.length ≤ 9223372036854775807) (h0 : 0 ≤ a) (h1 : a ≤ 1048576) : ∃ r : Int, laws_szValues.f d l a = some r ∧ (r = -1 ∨ (0 ≤ r ∧ r ≤ a ∧ l.length ≤ 1048576)) := by
  unfold laws_szValues.f
  simp only [szS_eq l a hl h0 (by omega), Option.bind_some]
  by_cases h : a < l.length
  · simp only [if_pos h, if_pos (show (-1 : Int) < 0 by omega)]
    exact ⟨-1, rfl, .inl rfl⟩
  · simp only [if_neg h, if_neg (show ¬ a - (l.length : Int) < 0 by omega)]
    exact ⟨_, rfl, .inr ⟨by omega, by omega, by omega⟩⟩

/-! laws.toInt64S -/
theorem to_step (l : List Int) (i : Nat) (hi : i < l.length) : (l.take i ++ List.replicate (l.length - i) 0).set i l[i] = l.take (i + 1) ++ List.replicate (l.length - (i + 1)) 0 := by
  rw [show l.length - i = (l.length - (i + 1)) + 1 by omega, List.replicate_succ, List.set_append, if_neg (by simp; omega), List.length_take, Nat.min_eq_left (by omega), Nat.sub_self, List.set_cons_zero, List.take_succ_eq_append_getElem hi, List.append_assoc]
  rfl
theorem to_l0 (l : List Int) (hl : l.length ≤ 35184372088832) : ∀ (d i : Nat), d + i = l.length → Ev (fun k => laws_toInt64S.l0 k l (l.take i ++ List.replicate (l.length - i) 0) i) l := by
  intro d
  induction d with
  | zero =>
    intro i hd
    apply Ev.succ
    simp only [laws_toInt64S.l0, if_neg (show ¬ (i : Int) < (l.length : Int) by omega)]
    rw [List.take_of_length_le (by omega), show l.length - i = 0 by omega]
    simpa using Ev.now l
  | succ d ih =>
    intro i hd
    have hi : i < l.length := by omega
    apply Ev.succ
    simp only [laws_toInt64S.l0, if_pos (show (i : Int) < (l.length : Int) by omega), if_pos (show 0 ≤ (i : Int) by omega), if_pos (show (i : Int) < ((l.take i ++ List.replicate (l.length - i) (0 : Int)).length : Int) by simp; omega), rd_get hi, w64 (show (-9223372036854775808) ≤ (i : Int) + 1 by omega) (by omega), Int.toNat_natCast, to_step l i hi]
    exact ih (i + 1) (by omega)
theorem toInt64S_ev (l : List Int) (hl : l.length ≤ 35184372088832) : Ev (fun k => laws_toInt64S.f k l) l := by
  simp only [laws_toInt64S.f, if_pos (show 0 ≤ (l.length : Int) by omega), Int.toNat_natCast, if_pos hl]
  have := to_l0 l hl l.length 0 (by omega)
  simpa using this

/-! laws.toValues -/
theorem toValues_ev (d : Int) (l : List Int) (hl : l.length ≤ 1048576) : Ev (fun k => laws_toValues.f k d l) (d, l) := by
  unfold laws_toValues.f
  exact Ev.bind (toInt64S_ev l (by omega)) (Ev.now _)

/-! laws.eqValues -/
theorem eqValues_ev (d : Int) (a : List Int) (ha : a.length ≤ 9223372036854775806) : Ev (fun k => laws_eqValues.f k d a d a) true := by
  simp only [laws_eqValues.f, if_true]
  refine Ev.bind (eqInt64S_ev a a ha) ?_
  simp only [decide_true, if_true]
  exact Ev.now _

/-! laws.markValues -/
theorem markValues_ev (d : Int) (l : List Int) (m : Int) (hl : l.length ≤ 140737488355328) (h0 : 0 ≤ m) (h1 : m ≤ 4611686018427387904) : Ev (fun k => laws_markValues.f k d l m) (m + (l.length : Int), MARKS m l.length) := by
  unfold laws_markValues.f
  exact Ev.bind (markInt64S_ev l m hl h0 h1) (Ev.now _)

/-! laws.heldInt64S -/
theorem held_l0 (m : Int) (n : Nat) (hl : n ≤ 140737488355328) (h0 : 0 ≤ m) (h1 : m ≤ 4611686018427387904) : ∀ (d i : Nat), d + i = n → Ev (fun k => laws_heldInt64S.l0 k (MARKS m n) (m + (i : Int)) i) (m + (n : Int)) := by
  intro d
  induction d with
  | zero =>
    intro i hd
    apply Ev.succ
    simp only [laws_heldInt64S.l0, MARKS_length, if_neg (show ¬ (i : Int) < (n : Int) by omega)]
    rw [show i = n by omega]
    exact Ev.now _
  | succ d ih =>
    intro i hd
    have hi : i < (MARKS m n).length := by rw [MARKS_length]; omega
    apply Ev.succ
    simp only [laws_heldInt64S.l0, MARKS_length, if_pos (show (i : Int) < (n : Int) by omega), if_pos (show 0 ≤ (i : Int) by omega), rd_get hi, MARKS_get m n i hi, if_true, w64 (show (-9223372036854775808) ≤ (i : Int) + 1 by omega) (by omega), w64 (show (-9223372036854775808) ≤ m + (i : Int) + 1 by omega) (by omega)]
    have := ih (i + 1) (by omega)
    rw [Int.natCast_succ, ← Int.add_assoc] at this
    exact this
theorem heldInt64S_ev (m : Int) (n : Nat) (hl : n ≤ 140737488355328) (h0 : 0 ≤ m) (h1 : m ≤ 4611686018427387904) : Ev (fun k => laws_heldInt64S.f k (MARKS m n) m) (m + (n : Int)) := by
  have := held_l0 m n hl h0 h1 n 0 (by omega)
  simpa [laws_heldInt64S.f] using this

/-! laws.heldInt64SS -/
theorem rdl_getH {xs : List (List Int)} {i : Nat} : rd_L1 xs (i : Int) = xs.getD i [] := by
  unfold rd_L1; simp
theorem hss_l0 (l : List (List Int)) (m : Int) (hl : l.length ≤ 1048576) (hr : ∀ r ∈ l, r.length ≤ 1048576) (h0 : 0 ≤ m) (h1 : m ≤ 100000000000000) : ∀ (d i : Nat), d + i = l.length → Ev (fun k => laws_heldInt64SS.l0 k (MSS m l) (mtot_ m (l.take i)) i) (mtot_ m l) := by
  have hb : ((1048576 : Nat) : Int) * (l.length : Int) ≤ 1099511627776 := by
    have := Int.mul_le_mul_of_nonneg_left (show (l.length : Int) ≤ 1048576 by omega) (show (0 : Int) ≤ ((1048576 : Nat) : Int) by omega)
    omega
  intro d
  induction d with
  | zero =>
    intro i hd
    apply Ev.succ
    simp only [laws_heldInt64SS.l0, MSS_length, if_neg (show ¬ (i : Int) < (l.length : Int) by omega)]
    rw [List.take_of_length_le (by omega)]
    exact Ev.now _
  | succ d ih =>
    intro i hd
    have hi : i < l.length := by omega
    have hm := hr (l.getD i []) (getD_mem hi)
    have hb2 := mtot_mono l m i 1048576 hr (by omega)
    apply Ev.succ
    simp only [laws_heldInt64SS.l0, MSS_length, if_pos (show (i : Int) < (l.length : Int) by omega), if_pos (show 0 ≤ (i : Int) by omega), rdl_getH, MSS_get l m i hi, inc hi (by omega)]
    refine Ev.bind (heldInt64S_ev (mtot_ m (l.take i)) (l.getD i []).length (by omega) (by omega) (by omega)) ?_
    simp only [if_neg (show ¬ (mtot_ m (l.take i) + ((l.getD i []).length : Int)) < 0 by omega)]
    rw [← mtot_take l m i hi]
    exact ih (i + 1) (by omega)
theorem heldSS_ev (l : List (List Int)) (m : Int) (hl : l.length ≤ 1048576) (hr : ∀ r ∈ l, r.length ≤ 1048576) (h0 : 0 ≤ m) (h1 : m ≤ 100000000000000) : Ev (fun k => laws_heldInt64SS.f k (MSS m l) m) (mtot_ m l) := by
  have := hss_l0 l m hl hr h0 h1 l.length 0 (by omega)
  simpa [laws_heldInt64SS.f, mtot_] using this

/-! laws.heldMixture -/
theorem heldMix_ev (n : Nat) (ls : List (List Int)) (m : Int) (hw : n ≤ 1048576) (hl : ls.length ≤ 1048576) (hr : ∀ r ∈ ls, r.length ≤ 1048576) (h0 : 0 ≤ m) (h1 : m ≤ 1000000000) : Ev (fun k => laws_heldMixture.f k (MARKS m n) (MSS (m + (n : Int)) ls) m) (mtot_ (m + (n : Int)) ls) := by
  have hb := mtt_bnd ls (m + (n : Int)) 1048576 hr
  unfold laws_heldMixture.f
  refine Ev.bind (heldInt64S_ev m n (by omega) (by omega) (by omega)) ?_
  simp only [if_neg (show ¬ (m + (n : Int)) < 0 by omega)]
  refine Ev.bind (heldSS_ev ls (m + (n : Int)) hl hr (by omega) (by omega)) ?_
  simp only [if_neg (show ¬ mtot_ (m + (n : Int)) ls < 0 by omega)]
  exact Ev.now _

/-! spec.l00In -/
theorem in_eq (a b c : Int) : spec_l00In.f a b c = some (decide (b ≤ a ∧ a ≤ c)) := by
  unfold spec_l00In.f
  by_cases h : b ≤ a
  · rw [if_pos (show a ≥ b from h)]; simp [h]
  · rw [if_neg (show ¬ a ≥ b from h)]; simp [h]

/-! spec.l01Is -/
theorem l01Is_ev (den : Int) (vs : List Int) (hv : vs.length ≤ 9223372036854775806) : Ev (fun k => spec_l01Is.f k den vs) (VV den vs) := by
  unfold spec_l01Is.f
  have h := all_step vs.length (fun i => decide (-1000000 ≤ vs.getD i 0 ∧ vs.getD i 0 ≤ 1000000)) (fun k i => spec_l01Is.l0 k i den vs) (r := decide (1 ≤ den ∧ den ≤ 1000) && decide (vs.length ≤ 40)) ?_ ?_
  · refine h.to ?_
    rw [all_range vs (fun x => decide (-1000000 ≤ x ∧ x ≤ 1000000)) 0]
    unfold VV
    cases vs.all fun x => decide (-1000000 ≤ x ∧ x ≤ 1000000) <;> simp
  · apply Ev.succ
    simp only [spec_l01Is.l0, if_neg (show ¬ (vs.length : Int) < vs.length by omega), in_eq, Option.bind_some]
    by_cases c : 1 ≤ den ∧ den ≤ 1000
    · simp only [decide_eq_true c, if_true, Bool.true_and]
      refine (Ev.now _).to ?_
      exact decide_eq_decide.2 (by omega)
    · simp only [decide_eq_false c, Bool.false_eq_true, if_false, Bool.false_and]
      exact Ev.now _
  · intro i hi s hs
    apply Ev.succ
    simp only [spec_l01Is.l0, if_pos (show (i : Int) < vs.length by omega), if_pos (show 0 ≤ (i : Int) by omega), mrd, in_eq, Option.bind_some]
    by_cases c : -1000000 ≤ vs.getD i 0 ∧ vs.getD i 0 ≤ 1000000
    · simp only [decide_eq_true c, if_true, Bool.true_and, inc hi (by omega)]
      exact hs
    · simp only [decide_eq_false c, Bool.false_eq_true, if_false, Bool.false_and]
      exact Ev.now _

/-! spec.l00Same -/
theorem same_l0 (a b : List Int) (hl : a.length = b.length) (hm : a.length ≤ 9223372036854775806) : ∀ (d i : Nat), d + i = a.length → Ev (fun k => spec_l00Same.l0 k a b i) (decide (a.drop i = b.drop i)) := by
  intro d
  induction d with
  | zero =>
    intro i hd
    apply Ev.succ
    simp only [spec_l00Same.l0, if_neg (show ¬ (i : Int) < (a.length : Int) by omega)]
    rw [List.drop_of_length_le (by omega), List.drop_of_length_le (by omega)]
    exact Ev.now _
  | succ d ih =>
    intro i hd
    have hi : i < a.length := by omega
    have hi' : i < b.length := by omega
    apply Ev.succ
    simp only [spec_l00Same.l0, if_pos (show (i : Int) < (a.length : Int) by omega), if_pos (show 0 ≤ (i : Int) by omega), if_pos (show (i : Int) < (b.length : Int) by omega), rd_get hi, rd_get hi', w64 (show (-9223372036854775808) ≤ (i : Int) + 1 by omega) (by omega)]
    rw [List.drop_eq_getElem_cons hi, List.drop_eq_getElem_cons hi']
    by_cases h : a[i] = b[i]
    · simp only [if_pos h]
      exact (ih (i + 1) (by omega)).to (by simp only [List.cons.injEq, h, true_and])
    · simp only [if_neg h]
      exact (Ev.now _).to (by simp only [List.cons.injEq, h, false_and, decide_false])
theorem same_ev (a b : List Int) (hm : a.length ≤ 9223372036854775806) : Ev (fun k => spec_l00Same.f k a b) (decide (a = b)) := by
  unfold spec_l00Same.f
  by_cases h : a.length = b.length
  · simp only [if_pos (show (a.length : Int) = (b.length : Int) by omega)]
    simpa using same_l0 a b h hm a.length 0 (by omega)
  · simp only [if_neg (show ¬ (a.length : Int) = (b.length : Int) by omega)]
    exact (Ev.now _).to (by symm; simp; intro e; exact h (by rw [e]))

/-! spec.l01Floor -/
theorem tdiv_mul_range {a b m : Int} (hb : 0 < b) (h1 : -m ≤ a) (h2 : a ≤ m) : -m ≤ a.tdiv b * b ∧ a.tdiv b * b ≤ m := by
  have h := ediv_bounds (a := a) hb
  rcases tdiv_cases (a := a) hb with ⟨e, _, h3⟩ | ⟨e, _, h3, h4⟩
  · rw [e]
    rcases h3 with h3 | h3
    · have : 0 ≤ a / b * b := Int.mul_nonneg (Int.ediv_nonneg h3 (by omega)) (by omega)
      omega
    · have := Int.emod_add_mul_ediv a b
      have h5 : b * (a / b) = (a / b) * b := Int.mul_comm _ _
      omega
  · have h5 : (a / b + 1) * b = a / b * b + b := by rw [Int.add_mul, Int.one_mul]
    have h6 : a / b < 0 := Int.ediv_neg_of_neg_of_pos h3 hb
    have h7 : (a / b + 1) * b ≤ 0 * b := Int.mul_le_mul_of_nonneg_right (by omega) (by omega)
    rw [e]
    omega
theorem sfloor_eq {a b : Int} (hb : 0 < b) (h1 : -9223372036854775807 ≤ a) (h2 : a ≤ 9223372036854775807) : spec_l01Floor.f a b = some (a / b) := by
  have r1 := tdiv_range hb h1 h2 (by omega)
  have r2 := tdiv_mul_range hb h1 h2
  have hf := floorA (a := a) hb
  have e1 : wrap64 (a.tdiv b) = a.tdiv b := w64 (by omega) (by omega)
  have e2 : wrap64 (a.tdiv b * b) = a.tdiv b * b := w64 (by omega) (by omega)
  unfold spec_l01Floor.f
  rw [if_neg (by omega), e1, e2]
  by_cases h : a.tdiv b * b > a
  · rw [if_pos h] at hf
    rw [if_pos h, w64 (by omega) (by omega), hf]
  · rw [if_neg h] at hf
    rw [if_neg h, hf]

/-! spec.l06Start -/
theorem sta_l0 (o : List Int) (den : Int) (nums : List Int) (n : Nat) (hn : n ≤ 40) (hd : 1 ≤ den ∧ den ≤ 12) (hnl : nums.length = n) (ho : o.length = n) (hx : ∀ x ∈ o, 0 ≤ x ∧ x < n) (hv : ∀ x ∈ nums, -20 ≤ x ∧ x ≤ 39) : ∀ (e i : Nat) (out : List Int) (sum : Int), e + i = n → out.length = n → (∀ x ∈ out, -1000000 ≤ x ∧ x ≤ 1000000) → -(20 * i) ≤ sum → sum ≤ 12 + 39 * i → ∃ r : List Int, Ev (fun k => spec_l06Start.l0 k o out sum (i : Int) den nums) r ∧ r.length = n ∧ ∀ x ∈ r, -1000000 ≤ x ∧ x ≤ 1000000 := by
  intro e
  induction e with
  | zero =>
    intro i out sum hi hl hb _ _
    refine ⟨out, ?_, hl, hb⟩
    apply Ev.succ
    simp only [spec_l06Start.l0, if_neg (show ¬ (i : Int) < (o.length : Int) by omega)]
    exact Ev.now _
  | succ e ih =>
    intro i out sum hi hl hb s0 s1
    have hio : i < o.length := by omega
    have hq := hx o[i] (List.getElem_mem hio)
    obtain ⟨m, hm⟩ := Int.eq_ofNat_of_zero_le hq.1
    have hmn : m < nums.length := by omega
    have hvv := hv nums[m] (List.getElem_mem hmn)
    have e1 : rd o (i : Int) = (m : Int) := by rw [rd_get hio]; exact hm
    have e2 : rd nums (m : Int) = nums[m] := rd_get hmn
    have f1 := ediv_range (a := sum + nums[m]) (b := den) (m := 100000) (by omega) (by omega) (by omega) (by omega)
    have f2 := ediv_range (a := sum) (b := den) (m := 100000) (by omega) (by omega) (by omega) (by omega)
    obtain ⟨r, hr, hr1, hr2⟩ := ih (i + 1) (out.set m ((sum + nums[m]) / den - sum / den)) (sum + nums[m]) (by omega) (by simpa using hl) (fun x hx' => by
      rcases List.mem_or_eq_of_mem_set hx' with h | h
      · exact hb x h
      · rw [h]; omega) (by omega) (by omega)
    refine ⟨r, ?_, hr1, hr2⟩
    apply Ev.succ
    simp only [spec_l06Start.l0, if_pos (show (i : Int) < (o.length : Int) by omega), if_pos (show 0 ≤ (i : Int) by omega), e1, if_pos (show 0 ≤ (m : Int) by omega), if_pos (show (m : Int) < (nums.length : Int) by omega), e2, w64 (show (-9223372036854775808) ≤ sum + nums[m] by omega) (by omega), sfloor_eq (a := sum + nums[m]) (b := den) (by omega) (by omega) (by omega), sfloor_eq (a := sum) (b := den) (by omega) (by omega) (by omega), Option.bind_some, if_pos (show (m : Int) < (out.length : Int) by omega), w64 (show (-9223372036854775808) ≤ (sum + nums[m]) / den - sum / den by omega) (by omega), Int.toNat_natCast, inc hio (by omega)]
    exact hr
theorem sta_ev (o : List Int) (den : Int) (nums : List Int) (n : Nat) (t : Int) (hn : n ≤ 40) (hd : 1 ≤ den ∧ den ≤ 12) (hnl : nums.length = n) (ho : o.length = n) (hx : ∀ x ∈ o, 0 ≤ x ∧ x < n) (hv : ∀ x ∈ nums, -20 ≤ x ∧ x ≤ 39) (h0 : 0 ≤ t) (h1 : t ≤ 12) : ∃ r : List Int, Ev (fun k => spec_l06Start.f k den nums o t) r ∧ r.length = n ∧ ∀ x ∈ r, -1000000 ≤ x ∧ x ≤ 1000000 := by
  obtain ⟨r, hr, hr1, hr2⟩ := sta_l0 o den nums n hn hd hnl ho hx hv n 0 (List.replicate n 0) t (by omega) (by simp) (fun x hx => by
    have := (List.mem_replicate.1 hx).2
    omega) (by omega) (by omega)
  refine ⟨r, ?_, hr1, hr2⟩
  unfold spec_l06Start.f
  simp only [ho, if_pos (show 0 ≤ (n : Int) by omega), Int.toNat_natCast, if_pos (show n ≤ 35184372088832 by omega)]
  exact hr
theorem stx_l0 (D : Int) (nums o : List Int) (n : Nat) (hD : 1 ≤ D ∧ D ≤ 1000) (hn : nums.length = n) (hn40 : n ≤ 40) (hv : ∀ x ∈ nums, -1000000 ≤ x ∧ x ≤ 1000000) (hol : o.length = n) (ho : ∀ x ∈ o, 0 ≤ x ∧ x < n) : ∀ (d i : Nat) (a : Int) (l : List Int), d + i = n → l.length = n → -(1000000 * (i : Int)) ≤ a → a ≤ 1000 + 1000000 * i →
    Ev (fun k => spec_l06Start.l0 k o l a (i : Int) D nums) (srow D nums (o.drop i) a l) := by
  intro d
  induction d with
  | zero =>
    intro i a l hi hl a0 a1
    rw [List.drop_of_length_le (by omega)]
    apply Ev.succ
    simp only [spec_l06Start.l0, if_neg (show ¬ (i : Int) < (o.length : Int) by omega)]
    exact Ev.now _
  | succ d ih =>
    intro i a l hi hl a0 a1
    have hio : i < o.length := by omega
    have hq := ho o[i] (List.getElem_mem hio)
    obtain ⟨m, hm⟩ := Int.eq_ofNat_of_zero_le hq.1
    have hmn : m < nums.length := by omega
    have hvv := hv (nums.getD m 0) (getD_mem hmn)
    have e1 : rd o (i : Int) = (m : Int) := by rw [rd_get hio]; exact hm
    have e2 : rd nums (m : Int) = nums.getD m 0 := mrd
    have f1 := ediv_range (a := a + nums.getD m 0) (b := D) (m := 100000000) (by omega) (by omega) (by omega) (by omega)
    have f2 := ediv_range (a := a) (b := D) (m := 100000000) (by omega) (by omega) (by omega) (by omega)
    have ed : srow D nums (o.drop i) a l = srow D nums (o.drop (i + 1)) (a + nums.getD m 0) (l.set m ((a + nums.getD m 0) / D - a / D)) := by
      rw [List.drop_eq_getElem_cons hio, srow, hm, Int.toNat_natCast]
    rw [ed]
    have := ih (i + 1) (a + nums.getD m 0) (l.set m ((a + nums.getD m 0) / D - a / D)) (by omega) (by simpa using hl) (by omega) (by omega)
    apply Ev.succ
    simp only [spec_l06Start.l0, if_pos (show (i : Int) < (o.length : Int) by omega), if_pos (show 0 ≤ (i : Int) by omega), e1, if_pos (show 0 ≤ (m : Int) by omega), if_pos (show (m : Int) < (nums.length : Int) by omega), e2, w64 (show (-9223372036854775808) ≤ a + nums.getD m 0 by omega) (by omega), sfloor_eq (a := a + nums.getD m 0) (b := D) (by omega) (by omega) (by omega), sfloor_eq (a := a) (b := D) (by omega) (by omega) (by omega), Option.bind_some, if_pos (show (m : Int) < (l.length : Int) by omega), w64 (show (-9223372036854775808) ≤ (a + nums.getD m 0) / D - a / D by omega) (by omega), Int.toNat_natCast, inc hio (by omega)]
    exact this
theorem stx_ev (D : Int) (nums o : List Int) (n : Nat) (hD : 1 ≤ D ∧ D ≤ 1000) (hn : nums.length = n) (hn40 : n ≤ 40) (hv : ∀ x ∈ nums, -1000000 ≤ x ∧ x ≤ 1000000) (hol : o.length = n) (ho : ∀ x ∈ o, 0 ≤ x ∧ x < n) (t : Int) (ht : 0 ≤ t ∧ t ≤ 1000) : Ev (fun k => spec_l06Start.f k D nums o t) (srow D nums o t (List.replicate n 0)) := by
  unfold spec_l06Start.f
  simp only [hol, if_pos (show 0 ≤ (n : Int) by omega), Int.toNat_natCast, if_pos (show n ≤ 35184372088832 by omega)]
  have := stx_l0 D nums o n hD hn hn40 hv hol ho n 0 t (List.replicate n 0) (by omega) (by simp) (by omega) (by omega)
  rwa [List.drop_zero] at this

/-! spec.l06Systematic -/
/-- Weights and lists of one length, all lists other ones. -/
def GM (n : Nat) (W : List Int) (L : List (List Int)) : Prop := W.length = L.length ∧ (∀ w ∈ W, 1 ≤ w) ∧ (∀ r ∈ L, r.length = n ∧ ∀ x ∈ r, -1000000 ≤ x ∧ x ≤ 1000000) ∧ L.Nodup
theorem rdl_sys {xs : List (List Int)} {i : Nat} (h : i < xs.length) : rd_L1 xs (i : Int) = xs[i] := by
  unfold rd_L1; exact getD_get h
theorem sum_le_mem : ∀ {W : List Int}, (∀ w ∈ W, 1 ≤ w) → (∀ w ∈ W, w ≤ W.sum) ∧ (W.length : Int) ≤ W.sum
  | [], _ => ⟨fun _ h => (by simp at h), by simp⟩
  | x :: W, h => by
    have h1 := sum_le_mem (W := W) (fun w hw => h w (List.mem_cons_of_mem _ hw))
    have h2 := h x List.mem_cons_self
    rw [List.sum_cons, List.length_cons]
    refine ⟨fun w hw => ?_, by omega⟩
    rcases List.mem_cons.1 hw with rfl | hw
    · omega
    · have := h1.1 w hw; omega
theorem gm_push {n : Nat} {W : List Int} {L : List (List Int)} {r : List Int} {w : Int} (h : GM n W L) (hw : 1 ≤ w) (hr : r.length = n) (hb : ∀ x ∈ r, -1000000 ≤ x ∧ x ≤ 1000000) (hn : r ∉ L) : GM n (W ++ [w]) (L ++ [r]) := by
  obtain ⟨h1, h2, h3, h4⟩ := h
  refine ⟨by simp [h1], fun x hx => ?_, fun x hx => ?_, ?_⟩
  · rcases List.mem_append.1 hx with h | h
    · exact h2 x h
    · rw [List.mem_singleton.1 h]; exact hw
  · rcases List.mem_append.1 hx with h | h
    · exact h3 x h
    · rw [List.mem_singleton.1 h]; exact ⟨hr, hb⟩
  · rw [List.nodup_append]
    exact ⟨h4, by simp, fun a ha b hb' e => hn (by rw [← List.mem_singleton.1 hb', ← e]; exact ha)⟩
theorem gm_bump {n : Nat} {W : List Int} {L : List (List Int)} {i : Nat} {w : Int} (h : GM n W L) (hw : 1 ≤ w) : GM n (W.set i w) L :=
  ⟨by simpa using h.1, fun x hx => by
    rcases List.mem_or_eq_of_mem_set hx with h' | h'
    · exact h.2.1 x h'
    · omega, h.2.2⟩
/-- What a place and a list make of a mixture. -/
def sysAt (i : Nat) (r : List Int) (W : List Int) (L : List (List Int)) : List Int × List (List Int) := if i < L.length then (W.set i (W.getD i 0 + 1), L) else (W ++ [1], L ++ [r])
theorem sys_l1 (o : List Int) (t den : Int) (nums r : List Int) (n : Nat) (W : List Int) (L : List (List Int)) (h : GM n W L) (hs : W.sum ≤ 12) (hn : n ≤ 40) (hr : r.length = n) (ht : 0 ≤ t ∧ t ≤ 12) {s : List Int × List (List Int)} :
    ∀ (e i : Nat), e + i = L.length → (∀ j, j < i → L.getD j [] ≠ r) → ∃ i0 : Nat, i0 ≤ L.length ∧ (∀ j, j < i0 → L.getD j [] ≠ r) ∧ (i0 < L.length → L.getD i0 [] = r) ∧ (Ev (fun k => spec_l06Systematic.l0 k o (t + 1) den nums (sysAt i0 r W L).1 (sysAt i0 r W L).2) s → Ev (fun k => spec_l06Systematic.l1 k o t r (i : Int) den nums W L) s) := by
  have hb := sum_le_mem h.2.1
  have hl := h.1
  intro e
  induction e with
  | zero =>
    intro i hi hj
    have e : i = L.length := by omega
    subst e
    refine ⟨L.length, Nat.le_refl _, hj, fun h => absurd h (Nat.lt_irrefl _), fun hs' => ?_⟩
    have q1 : (W ++ [0] : List Int).length = L.length + 1 := by simp [hl]
    have q2 : rd (W ++ [0] : List Int) (L.length : Int) = 0 := by
      rw [rd_get (show L.length < (W ++ [0] : List Int).length by omega), List.getElem_append_right (by omega)]
      simp
    have q3 : (W ++ [0] : List Int).set L.length (0 + 1) = W ++ [1] := by
      rw [List.set_append_right _ _ (by omega), hl, Nat.sub_self]; rfl
    have q4 : sysAt L.length r W L = (W ++ [1], L ++ [r]) := by simp [sysAt]
    rw [q4] at hs'
    apply Ev.succ
    simp only [spec_l06Systematic.l1, if_neg (show ¬ (L.length : Int) < (L.length : Int) by omega), if_true, if_pos (show L.length < 5864062014805 by omega), if_pos (show W.length < 17592186044416 by omega), Option.bind_some, if_pos (show 0 ≤ (L.length : Int) by omega), if_pos (show (L.length : Int) < ((W ++ [0] : List Int).length : Int) by omega), q2, Int.toNat_natCast, w64 (show (-9223372036854775808) ≤ (0 : Int) + 1 by omega) (by omega), q3, w64 (show (-9223372036854775808) ≤ t + 1 by omega) (by omega)]
    exact hs'
  | succ e ih =>
    intro i hi hj
    have hil : i < L.length := by omega
    have hlen := h.2.2.1 L[i] (List.getElem_mem hil)
    have g : L.getD i [] = L[i] := by simp [List.getD_eq_getElem?_getD, hil]
    by_cases c : L[i] = r
    · refine ⟨i, by omega, hj, fun _ => by rw [g, c], fun hs' => ?_⟩
      have hw := h.2.1 W[i] (List.getElem_mem (by omega))
      have hw2 := hb.1 W[i] (List.getElem_mem (by omega))
      have q1 : rd W (i : Int) = W.getD i 0 := by unfold rd; simp
      have q2 : W.getD i 0 = W[i] := by simp [List.getD_eq_getElem?_getD, show i < W.length by omega]
      have q4 : sysAt i r W L = (W.set i (W.getD i 0 + 1), L) := by simp [sysAt, hil]
      rw [q4] at hs'
      apply Ev.succ
      simp only [spec_l06Systematic.l1, if_pos (show (i : Int) < (L.length : Int) by omega), if_pos (show 0 ≤ (i : Int) by omega), rdl_sys hil]
      refine Ev.bind (same_ev L[i] r (by omega)) ?_
      simp only [decide_eq_true c, if_true, if_neg (show ¬ (i : Int) = (L.length : Int) by omega), if_pos (show (i : Int) < (W.length : Int) by omega), q1, Int.toNat_natCast, w64 (show (-9223372036854775808) ≤ W.getD i 0 + 1 by rw [q2]; omega) (by rw [q2]; omega), w64 (show (-9223372036854775808) ≤ t + 1 by omega) (by omega)]
      exact hs'
    · obtain ⟨i0, h1, h2, h3, h4⟩ := ih (i + 1) (by omega) (fun j hj' => by
        by_cases e : j = i
        · subst e; rw [g]; exact c
        · exact hj j (by omega))
      refine ⟨i0, h1, h2, h3, fun hs' => ?_⟩
      apply Ev.succ
      simp only [spec_l06Systematic.l1, if_pos (show (i : Int) < (L.length : Int) by omega), if_pos (show 0 ≤ (i : Int) by omega), rdl_sys hil]
      refine Ev.bind (same_ev L[i] r (by omega)) ?_
      simp only [decide_eq_false c, Bool.false_eq_true, if_false, inc hil (by omega)]
      exact h4 hs'
theorem sys_l0 (o : List Int) (den : Int) (nums : List Int) (n : Nat) (hn : n ≤ 40) (hd : 1 ≤ den ∧ den ≤ 12) (hnl : nums.length = n) (ho : o.length = n) (hx : ∀ x ∈ o, 0 ≤ x ∧ x < n) (hv : ∀ x ∈ nums, -20 ≤ x ∧ x ≤ 39) : ∀ (e : Nat) (t : Int) (W : List Int) (L : List (List Int)), t + e = den → 0 ≤ t → GM n W L → W.sum = t → ∃ r : List Int × List (List Int), Ev (fun k => spec_l06Systematic.l0 k o t den nums W L) r ∧ GM n r.1 r.2 ∧ r.1.sum = den := by
  intro e
  induction e with
  | zero =>
    intro t W L he _ h hs
    refine ⟨(W, L), ?_, h, by show W.sum = den; omega⟩
    apply Ev.succ
    simp only [spec_l06Systematic.l0, if_neg (show ¬ t < den by omega)]
    exact Ev.now _
  | succ e ih =>
    intro t W L he h0 h hs
    obtain ⟨r, hr, hr1, hr2⟩ := sta_ev o den nums n t hn hd hnl ho hx hv h0 (by omega)
    have key : ∀ i0 : Nat, i0 ≤ L.length → (∀ j, j < i0 → L.getD j [] ≠ r) → GM n (sysAt i0 r W L).1 (sysAt i0 r W L).2 ∧ (sysAt i0 r W L).1.sum = t + 1 := by
      intro i0 h1 h2
      unfold sysAt
      by_cases c : i0 < L.length
      · have hw : i0 < W.length := by rw [h.1]; exact c
        have q2 : W.getD i0 0 = W[i0] := by simp [List.getD_eq_getElem?_getD, hw]
        have := h.2.1 W[i0] (List.getElem_mem hw)
        simp only [if_pos c]
        refine ⟨gm_bump h (by omega), ?_⟩
        rw [sum_set W i0 _ hw, q2]; omega
      · simp only [if_neg c]
        refine ⟨gm_push h (by omega) hr1 hr2 (fun hm => ?_), by rw [List.sum_append]; simp; omega⟩
        obtain ⟨j, hj, e⟩ := List.getElem_of_mem hm
        exact h2 j (by omega) (by simp [List.getD_eq_getElem?_getD, hj, e])
    obtain ⟨i0, g1, g2, g3, _⟩ := sys_l1 o t den nums r n W L h (by omega) hn hr1 (by omega) (s := ([], [])) L.length 0 (by omega) (fun j hj => absurd hj (Nat.not_lt_zero _))
    obtain ⟨q1, q2⟩ := key i0 g1 g2
    obtain ⟨s, hs', hs1, hs2⟩ := ih (t + 1) (sysAt i0 r W L).1 (sysAt i0 r W L).2 (by omega) (by omega) q1 q2
    obtain ⟨i1, g1', g2', g3', g4'⟩ := sys_l1 o t den nums r n W L h (by omega) hn hr1 (by omega) (s := s) L.length 0 (by omega) (fun j hj => absurd hj (Nat.not_lt_zero _))
    have hi : i1 = i0 := by
      rcases Nat.lt_trichotomy i1 i0 with c | c | c
      · exact absurd (g3' (by omega)) (g2 i1 c)
      · exact c
      · exact absurd (g3 (by omega)) (g2' i0 c)
    subst hi
    refine ⟨s, ?_, hs1, hs2⟩
    apply Ev.succ
    simp only [spec_l06Systematic.l0, if_pos (show t < den by omega)]
    exact Ev.bind hr (g4' hs')
theorem sys_ev (o : List Int) (den : Int) (nums : List Int) (n : Nat) (hn : n ≤ 40) (hd : 1 ≤ den ∧ den ≤ 12) (hnl : nums.length = n) (ho : o.length = n) (hx : ∀ x ∈ o, 0 ≤ x ∧ x < n) (hv : ∀ x ∈ nums, -20 ≤ x ∧ x ≤ 39) : ∃ r : List Int × List (List Int), Ev (fun k => spec_l06Systematic.f k den nums o) r ∧ GM n r.1 r.2 ∧ r.1.sum = den :=
  sys_l0 o den nums n hn hd hnl ho hx hv den.toNat 0 [] [] (by omega) (by omega) ⟨rfl, fun _ h => (by simp at h), fun _ h => (by simp at h), List.nodup_nil⟩ rfl
theorem sysx_l1 (o : List Int) (t den : Int) (nums r : List Int) (W : List Int) (L : List (List Int)) (hl : W.length = L.length) (hL : L.length ≤ 1000) (hw : ∀ w ∈ W, 0 ≤ w ∧ w ≤ 1000) (hr : r.length ≤ 1000) (hlr : ∀ x ∈ L, x.length = r.length) (ht : 0 ≤ t ∧ t ≤ 1000) {s : List Int × List (List Int)} (hs : Ev (fun k => spec_l06Systematic.l0 k o (t + 1) den nums (addM W L r 1).1 (addM W L r 1).2) s) :
    ∀ (e i : Nat), e + i = L.length → (∀ j, j < i → L.getD j [] ≠ r) → Ev (fun k => spec_l06Systematic.l1 k o t r (i : Int) den nums W L) s := by
  intro e
  induction e with
  | zero =>
    intro i hi hj
    have e : i = L.length := by omega
    subst e
    have hf : fidx L r = L.length := fidx_eq L r L.length hj (Nat.le_refl _) (fun h => absurd h (Nat.lt_irrefl _))
    have q1 : (W ++ [0] : List Int).length = L.length + 1 := by simp [hl]
    have q2 : rd (W ++ [0] : List Int) (L.length : Int) = 0 := by
      rw [rd_get (show L.length < (W ++ [0] : List Int).length by omega), List.getElem_append_right (by omega)]
      simp
    have q3 : (W ++ [0] : List Int).set L.length (0 + 1) = W ++ [1] := by
      rw [List.set_append_right _ _ (by omega), hl, Nat.sub_self]; rfl
    have q4 : addM W L r 1 = (W ++ [1], L ++ [r]) := by unfold addM; rw [hf, if_neg (Nat.lt_irrefl _)]
    rw [q4] at hs
    apply Ev.succ
    simp only [spec_l06Systematic.l1, if_neg (show ¬ (L.length : Int) < (L.length : Int) by omega), if_true, if_pos (show L.length < 5864062014805 by omega), if_pos (show W.length < 17592186044416 by omega), Option.bind_some, if_pos (show 0 ≤ (L.length : Int) by omega), if_pos (show (L.length : Int) < ((W ++ [0] : List Int).length : Int) by omega), q2, Int.toNat_natCast, w64 (show (-9223372036854775808) ≤ (0 : Int) + 1 by omega) (by omega), q3, w64 (show (-9223372036854775808) ≤ t + 1 by omega) (by omega)]
    exact hs
  | succ e ih =>
    intro i hi hj
    have hil : i < L.length := by omega
    have hlen := hlr L[i] (List.getElem_mem hil)
    have g : L.getD i [] = L[i] := by simp [List.getD_eq_getElem?_getD, hil]
    by_cases c : L[i] = r
    · have hf : fidx L r = i := fidx_eq L r i hj (by omega) (fun _ => by rw [g]; exact c)
      have hw1 := hw (W.getD i 0) (getD_mem (by omega))
      have q1 : rd W (i : Int) = W.getD i 0 := by unfold rd; simp
      have q4 : addM W L r 1 = (W.set i (W.getD i 0 + 1), L) := by unfold addM; rw [hf, if_pos hil]
      rw [q4] at hs
      apply Ev.succ
      simp only [spec_l06Systematic.l1, if_pos (show (i : Int) < (L.length : Int) by omega), if_pos (show 0 ≤ (i : Int) by omega), rdl_sys hil]
      refine Ev.bind (same_ev L[i] r (by omega)) ?_
      simp only [decide_eq_true c, if_true, if_neg (show ¬ (i : Int) = (L.length : Int) by omega), if_pos (show (i : Int) < (W.length : Int) by omega), q1, Int.toNat_natCast, w64 (show (-9223372036854775808) ≤ W.getD i 0 + 1 by omega) (by omega), w64 (show (-9223372036854775808) ≤ t + 1 by omega) (by omega)]
      exact hs
    · apply Ev.succ
      simp only [spec_l06Systematic.l1, if_pos (show (i : Int) < (L.length : Int) by omega), if_pos (show 0 ≤ (i : Int) by omega), rdl_sys hil]
      refine Ev.bind (same_ev L[i] r (by omega)) ?_
      simp only [decide_eq_false c, Bool.false_eq_true, if_false, inc hil (by omega)]
      exact ih (i + 1) (by omega) (fun j hj' => by
        by_cases e : j = i
        · subst e; rw [g]; exact c
        · exact hj j (by omega))
theorem sysx_l0 (D : Int) (nums o : List Int) (n : Nat) (hD : 1 ≤ D ∧ D ≤ 1000) (hn : nums.length = n) (hn40 : n ≤ 40) (hv : ∀ x ∈ nums, -1000000 ≤ x ∧ x ≤ 1000000) (hol : o.length = n) (ho : ∀ x ∈ o, 0 ≤ x ∧ x < n) : ∀ (e t : Nat), (e + t : Int) = D → Ev (fun k => spec_l06Systematic.l0 k o (t : Int) D nums (sysM D nums o n t).1 (sysM D nums o n t).2) ((sysM D nums o n D.toNat).1, (sysM D nums o n D.toNat).2) := by
  intro e
  induction e with
  | zero =>
    intro t he
    have e : D.toNat = t := by omega
    rw [e]
    apply Ev.succ
    simp only [spec_l06Systematic.l0, if_neg (show ¬ (t : Int) < D by omega)]
    exact Ev.now _
  | succ e ih =>
    intro t he
    obtain ⟨g1, g2, g3, g4, g5, g6⟩ := sysM_inv D nums o n t
    have hb := mem_le_sum g4
    rw [sysM_sum] at hb
    have hlen : (srow D nums o (t : Int) (List.replicate n 0)).length = n := by rw [srow_length]; simp
    have h1 := ih (t + 1) (by omega)
    rw [show (((t + 1 : Nat) : Int)) = (t : Int) + 1 by omega] at h1
    have h3 := sysx_l1 o (t : Int) D nums (srow D nums o (t : Int) (List.replicate n 0)) (sysM D nums o n t).1 (sysM D nums o n t).2 g1 (by omega) (fun y hy => by
      have := g4 y hy; have := hb.1 y hy; omega) (by omega) (fun x hx => by
      obtain ⟨s, _, rfl⟩ := (g5 x).1 hx
      rw [srow_length, srow_length]) (by omega) (s := ((sysM D nums o n D.toNat).1, (sysM D nums o n D.toNat).2)) h1 (sysM D nums o n t).2.length 0 (by omega) (fun j hj => absurd hj (Nat.not_lt_zero _))
    apply Ev.succ
    simp only [spec_l06Systematic.l0, if_pos (show (t : Int) < D by omega)]
    exact Ev.bind (stx_ev D nums o n hD hn hn40 hv hol ho (t : Int) (by omega)) h3
theorem sysx_ev (D : Int) (nums o : List Int) (n : Nat) (hD : 1 ≤ D ∧ D ≤ 1000) (hn : nums.length = n) (hn40 : n ≤ 40) (hv : ∀ x ∈ nums, -1000000 ≤ x ∧ x ≤ 1000000) (hol : o.length = n) (ho : ∀ x ∈ o, 0 ≤ x ∧ x < n) : Ev (fun k => spec_l06Systematic.f k D nums o) ((sysM D nums o n D.toNat).1, (sysM D nums o n D.toNat).2) :=
  sysx_l0 D nums o n hD hn hn40 hv hol ho D.toNat 0 (by omega)

/-! spec.l04All -/
theorem all4_l0 (n : Nat) (hn : n ≤ 1000) : ∀ (e i : Nat), e + i = n → Ev (fun k => spec_l04All.l0 k (n : Int) ((List.range i).map fun j : Nat => (j : Int)) (i : Int)) ((List.range n).map fun j : Nat => (j : Int)) := by
  intro e
  induction e with
  | zero =>
    intro i hi
    have e : i = n := by omega
    subst e
    apply Ev.succ
    simp only [spec_l04All.l0, if_neg (show ¬ (i : Int) < (i : Int) by omega)]
    exact Ev.now _
  | succ e ih =>
    intro i hi
    have h := ih (i + 1) (by omega)
    rw [List.range_succ, List.map_append] at h
    apply Ev.succ
    simp only [spec_l04All.l0, if_pos (show (i : Int) < (n : Int) by omega), if_pos (show ((List.range i).map fun j : Nat => (j : Int)).length < 17592186044416 by simp; omega), inc (show i < n by omega) (by omega)]
    exact h
theorem all4_ev (n : Nat) (hn : n ≤ 1000) : Ev (fun k => spec_l04All.f k (n : Int)) ((List.range n).map fun j : Nat => (j : Int)) := all4_l0 n hn n 0 (by omega)

/-! impl.within -/
theorem within_eq (a b c : Int) : impl_within.f a b c = some (decide (b ≤ a ∧ a ≤ c)) := by
  unfold impl_within.f
  by_cases h : b ≤ a
  · rw [if_pos h]; simp [h]
  · rw [if_neg h]; simp [h]

/-! impl.areWithin -/
theorem aw_l0 (l : List Int) (a b : Int) (hl : l.length ≤ 9223372036854775806) : ∀ (d i : Nat), d + i = l.length → ∃ r : Int, Ev (fun k => slices_IndexFunc_int64_int64_impl_areWithin_1.l0 k l (l.length : Int) i a b) r ∧ (decide (r ≥ 0) = !(l.drop i).all fun n => decide (a ≤ n ∧ n ≤ b)) := by
  intro d
  induction d with
  | zero =>
    intro i hd
    refine ⟨-1, ?_, ?_⟩
    · apply Ev.succ
      simp only [slices_IndexFunc_int64_int64_impl_areWithin_1.l0, if_neg (show ¬ (i : Int) < (l.length : Int) by omega)]
      exact Ev.now _
    · rw [List.drop_of_length_le (by omega)]; rfl
  | succ d ih =>
    intro i hd
    have hi : i < l.length := by omega
    obtain ⟨r, hr, he⟩ := ih (i + 1) (by omega)
    by_cases h : a ≤ l[i] ∧ l[i] ≤ b
    · refine ⟨r, ?_, ?_⟩
      · apply Ev.succ
        simp only [slices_IndexFunc_int64_int64_impl_areWithin_1.l0, if_pos (show (i : Int) < (l.length : Int) by omega), if_pos (show 0 ≤ (i : Int) by omega), rd_get hi, impl_areWithin_1.f, within_eq, decide_eq_true h, Option.bind_some, w64 (show (-9223372036854775808) ≤ (i : Int) + 1 by omega) (by omega)]
        simpa using hr
      · rw [he, List.drop_eq_getElem_cons hi, List.all_cons, decide_eq_true h, Bool.true_and]
    · refine ⟨i, ?_, ?_⟩
      · apply Ev.succ
        simp only [slices_IndexFunc_int64_int64_impl_areWithin_1.l0, if_pos (show (i : Int) < (l.length : Int) by omega), if_pos (show 0 ≤ (i : Int) by omega), rd_get hi, impl_areWithin_1.f, within_eq, decide_eq_false h, Option.bind_some]
        simpa using Ev.now _
      · rw [List.drop_eq_getElem_cons hi, List.all_cons, decide_eq_false h, Bool.false_and]; simp
theorem areWithin_ev (l : List Int) (a b : Int) (hl : l.length ≤ 9223372036854775806) : Ev (fun k => impl_areWithin.f k l a b) (l.all fun n => decide (a ≤ n ∧ n ≤ b)) := by
  obtain ⟨r, hr, he⟩ := aw_l0 l a b hl l.length 0 (by omega)
  unfold impl_areWithin.f
  simp only [slices_ContainsFunc_int64_int64_impl_areWithin_1.f, slices_IndexFunc_int64_int64_impl_areWithin_1.f]
  refine Ev.bind (Ev.bind hr (Ev.now _)) ?_
  refine (Ev.now _).to ?_
  rw [he, List.drop_zero, Bool.not_not]

/-! impl.ValidValues -/
theorem validValues_ev (den : Int) (vs : List Int) (hv : vs.length ≤ 9223372036854775806) : Ev (fun k => impl_ValidValues.f k den vs) (VV den vs) := by
  unfold impl_ValidValues.f VV
  simp only [within_eq, Option.bind_some]
  by_cases c : 1 ≤ den ∧ den ≤ 1000
  · simp only [decide_eq_true c, if_true, Bool.true_and]
    by_cases c2 : vs.length ≤ 40
    · simp only [decide_eq_true c2, if_pos (show (vs.length : Int) ≤ 40 by omega), Bool.true_and]
      exact Ev.bind (areWithin_ev vs (-1000000) 1000000 hv) (Ev.now _)
    · simp only [decide_eq_false c2, if_neg (show ¬ (vs.length : Int) ≤ 40 by omega), Bool.false_and]
      exact Ev.now _
  · simp only [decide_eq_false c, Bool.false_eq_true, if_false, Bool.false_and]
    exact Ev.now _

/-! impl.isSet -/
theorem isSet1_ev (a n : Int) (h0 : 0 ≤ n) (h1 : n ≤ 1048576) : Ev (fun k => impl_isSet.f k [a] n) (decide (0 ≤ a ∧ a ≤ n - 1)) := by
  unfold impl_isSet.f
  apply Ev.succ
  have hr : rd [a] 0 = a := rfl
  simp only [impl_isSet.l0, List.length_singleton, if_pos (show (0 : Int) < ((1 : Nat) : Int) by omega), if_pos (show (0 : Int) ≤ 0 by omega), hr, within_eq, Option.bind_some, w64 (show (-9223372036854775808) ≤ n - 1 by omega) (by omega), if_neg (show ¬ (0 : Int) > 0 by omega)]
  by_cases h : 0 ≤ a ∧ a ≤ n - 1
  · simp only [decide_eq_true h, if_true, w64 (show (-9223372036854775808) ≤ (0 : Int) + 1 by omega) (by omega)]
    apply Ev.succ
    simp only [impl_isSet.l0, List.length_singleton, if_neg (show ¬ (0 + 1 : Int) < ((1 : Nat) : Int) by omega)]
    exact Ev.now _
  · simp only [decide_eq_false h, Bool.false_eq_true, if_false]
    exact Ev.now _
theorem isSet_ev (l : List Int) (n : Int) (hl : l.length ≤ 1048576) (h0 : 0 ≤ n) (h1 : n ≤ 1048576) : Ev (fun k => impl_isSet.f k l n) (RSET l (n - 1)) := by
  have := all_step l.length (fun i => decide (0 ≤ l.getD i 0 ∧ l.getD i 0 ≤ n - 1) && decide (i = 0 ∨ l.getD (i - 1) 0 < l.getD i 0)) (fun k i => impl_isSet.l0 k l n l (l.length : Int) (i : Int)) (r := true) (by
    apply Ev.succ
    simp only [impl_isSet.l0, if_neg (show ¬ (l.length : Int) < (l.length : Int) by omega)]
    exact Ev.now _) (by
    intro i hi' s hs
    apply Ev.succ
    simp only [impl_isSet.l0, if_pos (show (i : Int) < (l.length : Int) by omega), if_pos (show 0 ≤ (i : Int) by omega), rdNc, within_eq, Option.bind_some, inc hi' (by omega), w64 (show (-9223372036854775808) ≤ n - 1 by omega) (by omega)]
    by_cases c : 0 ≤ l.getD i 0 ∧ l.getD i 0 ≤ n - 1
    · simp only [decide_eq_true c, if_true, Bool.true_and]
      by_cases c0 : i = 0
      · subst c0
        simp only [if_neg (show ¬ ((0 : Nat) : Int) > 0 by omega)]
        exact hs.to (by simp)
      · have e : wrap64 ((i : Int) - 1) = ((i - 1 : Nat) : Int) := by rw [w64 (by omega) (by omega)]; omega
        simp only [if_pos (show (i : Int) > 0 by omega), e, if_pos (show 0 ≤ ((i - 1 : Nat) : Int) by omega), if_pos (show ((i - 1 : Nat) : Int) < (l.length : Int) by omega), rdNc]
        by_cases c1 : l.getD i 0 ≤ l.getD (i - 1) 0
        · simp only [if_pos c1]
          refine (Ev.now _).to ?_
          rw [decide_eq_false (show ¬ (i = 0 ∨ l.getD (i - 1) 0 < l.getD i 0) by omega)]; rfl
        · simp only [if_neg c1]
          refine hs.to ?_
          rw [decide_eq_true (show (i = 0 ∨ l.getD (i - 1) 0 < l.getD i 0) by omega)]; rfl
    · simp only [decide_eq_false c, Bool.false_eq_true, if_false, Bool.false_and]
      exact Ev.now _)
  unfold impl_isSet.f RSET
  rw [Bool.and_true] at this
  exact this

/-! slices.Equal   int64,int64  -/
theorem sleq_l0 (a b : List Int) (hl : a.length = b.length) (hm : a.length ≤ 9223372036854775806) : ∀ (d i : Nat), d + i = a.length → Ev (fun k => slices_Equal_int64_int64.l0 k a b (a.length : Int) i) (decide (a.drop i = b.drop i)) := by
  intro d
  induction d with
  | zero =>
    intro i hd
    apply Ev.succ
    simp only [slices_Equal_int64_int64.l0, if_neg (show ¬ (i : Int) < (a.length : Int) by omega)]
    rw [List.drop_of_length_le (by omega), List.drop_of_length_le (by omega)]
    exact Ev.now _
  | succ d ih =>
    intro i hd
    have hi : i < a.length := by omega
    have hi' : i < b.length := by omega
    apply Ev.succ
    simp only [slices_Equal_int64_int64.l0, if_pos (show (i : Int) < (a.length : Int) by omega), if_pos (show 0 ≤ (i : Int) by omega), if_pos (show (i : Int) < (b.length : Int) by omega), rd_get hi, rd_get hi', w64 (show (-9223372036854775808) ≤ (i : Int) + 1 by omega) (by omega)]
    rw [List.drop_eq_getElem_cons hi, List.drop_eq_getElem_cons hi']
    by_cases h : a[i] = b[i]
    · simp only [if_pos h]
      exact (ih (i + 1) (by omega)).to (by simp only [List.cons.injEq, h, true_and])
    · simp only [if_neg h]
      exact (Ev.now _).to (by simp only [List.cons.injEq, h, false_and, decide_false])
theorem slEqual_ev (a b : List Int) (hm : a.length ≤ 9223372036854775806) : Ev (fun k => slices_Equal_int64_int64.f k a b) (decide (a = b)) := by
  unfold slices_Equal_int64_int64.f
  by_cases h : a.length = b.length
  · simp only [if_pos (show (a.length : Int) = (b.length : Int) by omega)]
    simpa using sleq_l0 a b h hm a.length 0 (by omega)
  · simp only [if_neg (show ¬ (a.length : Int) = (b.length : Int) by omega)]
    exact (Ev.now _).to (by symm; simp; intro e; exact h (by rw [e]))

/-! slices.Sort   int64,int64  -/
theorem sort_eq {l : List Int} (h0 : 0 < l.length) (h : l.length < 4611686018427387904) : slices_Sort_int64_int64.f l = some (SORT l) := by
  unfold slices_Sort_int64_int64.f
  rw [if_neg (fun e => by rw [e] at h0; simp at h0), if_pos h]
  rfl

/-! impl.floor -/
theorem ifloor_eq {a b : Int} (hb : 0 < b) (h1 : -9223372036854775807 ≤ a) (h2 : a ≤ 9223372036854775807) : impl_floor.f a b = some (a / b) := by
  have r1 := tdiv_range hb h1 h2 (by omega)
  have hf := floorB (a := a) hb
  have e1 : wrap64 (a.tdiv b) = a.tdiv b := w64 (by omega) (by omega)
  unfold impl_floor.f
  rw [if_neg (by omega), e1]
  by_cases h : a.tmod b < 0
  · rw [if_pos h] at hf
    rw [if_pos h, w64 (by omega) (by omega), hf]
  · rw [if_neg h] at hf
    rw [if_neg h, hf]

/-! impl.SystematicIn -/
theorem rdl_s {xs : List (List Int)} {i : Nat} (h : i < xs.length) : rd_L1 xs (i : Int) = xs[i] := by
  unfold rd_L1; exact getD_get h
theorem am1_ev (r x : List Int) (hr : r.length ≤ 1048576) : Ev (fun k => impl_Mixture_addTo_1.f k r x) (decide (r = x)) := by
  unfold impl_Mixture_addTo_1.f
  exact Ev.bind (slEqual_ev r x (by omega)) (Ev.now _)
theorem amI_l0 (L : List (List Int)) (x : List Int) (hl : L.length ≤ 1048576) (hr : ∀ r ∈ L, r.length ≤ 1048576) : ∀ (d i : Nat), d + i = L.length → (∀ j, j < i → L.getD j [] ≠ x) → Ev (fun k => slices_IndexFunc_int64_int64_impl_Mixture_addTo_1.l0 k L (L.length : Int) (i : Int) x) (if fidx L x < L.length then (fidx L x : Int) else -1) := by
  intro d
  induction d with
  | zero =>
    intro i hd hj
    have e : i = L.length := by omega
    subst e
    have hf : fidx L x = L.length := fidx_eq L x L.length hj (Nat.le_refl _) (fun h => absurd h (Nat.lt_irrefl _))
    rw [if_neg (by omega)]
    apply Ev.succ
    simp only [slices_IndexFunc_int64_int64_impl_Mixture_addTo_1.l0, if_neg (show ¬ (L.length : Int) < L.length by omega)]
    exact Ev.now _
  | succ d ih =>
    intro i hd hj
    have hi : i < L.length := by omega
    have g : L.getD i [] = L[i] := by simp [List.getD_eq_getElem?_getD, hi]
    apply Ev.succ
    simp only [slices_IndexFunc_int64_int64_impl_Mixture_addTo_1.l0, if_pos (show (i : Int) < L.length by omega), if_pos (show 0 ≤ (i : Int) by omega), rdl_s hi]
    refine Ev.bind (am1_ev L[i] x (hr _ (List.getElem_mem hi))) ?_
    by_cases c : L[i] = x
    · have hf : fidx L x = i := fidx_eq L x i hj (by omega) (fun _ => by rw [g]; exact c)
      simp only [decide_eq_true c, if_true]
      rw [hf, if_pos hi]
      exact Ev.now _
    · simp only [decide_eq_false c, Bool.false_eq_true, if_false, inc hi (by omega)]
      exact ih (i + 1) (by omega) (fun j hj' => by
        by_cases e : j = i
        · subst e; rw [g]; exact c
        · exact hj j (by omega))
theorem addTo_ev (W : List Int) (L : List (List Int)) (x : List Int) (w : Int) (hl : L.length ≤ 1048575) (hr : ∀ r ∈ L, r.length ≤ 1048576) (hwl : W.length = L.length) (hw : ∀ y ∈ W, 0 ≤ y ∧ y ≤ 1000000000) (hw2 : 0 ≤ w ∧ w ≤ 1000000000) : Ev (fun k => impl_Mixture_addTo.f k W L x w) (addM W L x w) := by
  unfold impl_Mixture_addTo.f addM slices_IndexFunc_int64_int64_impl_Mixture_addTo_1.f
  refine Ev.bind (amI_l0 L x (by omega) hr L.length 0 (by omega) (fun j hj => absurd hj (Nat.not_lt_zero _))) ?_
  by_cases c : fidx L x < L.length
  · have hb := hw (W.getD (fidx L x) 0) (getD_mem (by omega))
    simp only [if_pos c, if_neg (show ¬ ((fidx L x : Nat) : Int) < 0 by omega), if_pos (show 0 ≤ ((fidx L x : Nat) : Int) by omega), if_pos (show ((fidx L x : Nat) : Int) < (W.length : Int) by omega), mrd, w64 (show (-9223372036854775808) ≤ W.getD (fidx L x) 0 + w by omega) (by omega), Int.toNat_natCast]
    exact Ev.now _
  · simp only [if_neg c, if_pos (show (-1 : Int) < 0 by omega), Option.bind_some, List.length_singleton, if_pos (show L.length + 1 < 5864062014805 by omega), if_pos (show W.length + 1 < 17592186044416 by omega)]
    exact Ev.now _
theorem si_l1 (D : Int) (nums o : List Int) (n : Nat) (hD : 1 ≤ D ∧ D ≤ 1000) (hn : nums.length = n) (hn40 : n ≤ 40) (hv : ∀ x ∈ nums, -1000000 ≤ x ∧ x ≤ 1000000) (hol : o.length = n) (ho : ∀ x ∈ o, 0 ≤ x ∧ x < n) (t : Int) (ht : 0 ≤ t ∧ t ≤ 1000) (W : List Int) (L : List (List Int)) {s : List Int × List (List Int) × Bool} : ∀ (d i : Nat) (a : Int) (l : List Int), d + i = n → l.length = n → -(1000000 * (i : Int)) ≤ a → a ≤ 1000 + 1000000 * i →
    Ev (fun k => (impl_Mixture_addTo.f k W L (srow D nums (o.drop i) a l) 1).bind fun bt => impl_SystematicIn.l0 k o D (t + 1) D nums bt.1 bt.2) s → Ev (fun k => impl_SystematicIn.l1 k o l a D t o (o.length : Int) (i : Int) D nums W L) s := by
  intro d
  induction d with
  | zero =>
    intro i a l hi hl a0 a1 hs
    rw [List.drop_of_length_le (by omega)] at hs
    apply Ev.succ
    simp only [impl_SystematicIn.l1, if_neg (show ¬ (i : Int) < (o.length : Int) by omega), w64 (show (-9223372036854775808) ≤ t + 1 by omega) (by omega)]
    exact hs
  | succ d ih =>
    intro i a l hi hl a0 a1 hs
    have hio : i < o.length := by omega
    have hq := ho o[i] (List.getElem_mem hio)
    obtain ⟨m, hm⟩ := Int.eq_ofNat_of_zero_le hq.1
    have hmn : m < nums.length := by omega
    have hvv := hv (nums.getD m 0) (getD_mem hmn)
    have e1 : rd o (i : Int) = (m : Int) := by rw [rd_get hio]; exact hm
    have e2 : rd nums (m : Int) = nums.getD m 0 := mrd
    have f1 := ediv_range (a := a + nums.getD m 0) (b := D) (m := 100000000) (by omega) (by omega) (by omega) (by omega)
    have f2 := ediv_range (a := a) (b := D) (m := 100000000) (by omega) (by omega) (by omega) (by omega)
    have ed : srow D nums (o.drop i) a l = srow D nums (o.drop (i + 1)) (a + nums.getD m 0) (l.set m ((a + nums.getD m 0) / D - a / D)) := by
      rw [List.drop_eq_getElem_cons hio, srow, hm, Int.toNat_natCast]
    rw [ed] at hs
    have := ih (i + 1) (a + nums.getD m 0) (l.set m ((a + nums.getD m 0) / D - a / D)) (by omega) (by simpa using hl) (by omega) (by omega) hs
    apply Ev.succ
    simp only [impl_SystematicIn.l1, if_pos (show (i : Int) < (o.length : Int) by omega), if_pos (show 0 ≤ (i : Int) by omega), e1, if_pos (show 0 ≤ (m : Int) by omega), if_pos (show (m : Int) < (nums.length : Int) by omega), e2, w64 (show (-9223372036854775808) ≤ a + nums.getD m 0 by omega) (by omega), ifloor_eq (a := a + nums.getD m 0) (b := D) (by omega) (by omega) (by omega), ifloor_eq (a := a) (b := D) (by omega) (by omega) (by omega), Option.bind_some, if_pos (show (m : Int) < (l.length : Int) by omega), w64 (show (-9223372036854775808) ≤ (a + nums.getD m 0) / D - a / D by omega) (by omega), Int.toNat_natCast, inc hio (by omega)]
    exact this
theorem si_l0 (D : Int) (nums o : List Int) (n : Nat) (hD : 1 ≤ D ∧ D ≤ 1000) (hn : nums.length = n) (hn40 : n ≤ 40) (hv : ∀ x ∈ nums, -1000000 ≤ x ∧ x ≤ 1000000) (hol : o.length = n) (ho : ∀ x ∈ o, 0 ≤ x ∧ x < n) : ∀ (e t : Nat), (e + t : Int) = D → Ev (fun k => impl_SystematicIn.l0 k o D (t : Int) D nums (sysM D nums o n t).1 (sysM D nums o n t).2) ((sysM D nums o n D.toNat).1, (sysM D nums o n D.toNat).2, true) := by
  intro e
  induction e with
  | zero =>
    intro t he
    have e : D.toNat = t := by omega
    rw [e]
    apply Ev.succ
    simp only [impl_SystematicIn.l0, if_neg (show ¬ (t : Int) < D by omega)]
    exact Ev.now _
  | succ e ih =>
    intro t he
    obtain ⟨g1, g2, g3, g4, g5, g6⟩ := sysM_inv D nums o n t
    have hb := mem_le_sum g4
    rw [sysM_sum] at hb
    have h1 := ih (t + 1) (by omega)
    have h2 := addTo_ev (sysM D nums o n t).1 (sysM D nums o n t).2 (srow D nums o (t : Int) (List.replicate n 0)) 1 (by omega) (fun r hr => by
      obtain ⟨s, _, rfl⟩ := (g5 r).1 hr
      rw [srow_length, List.length_replicate]; omega) g1 (fun y hy => by
      have := g4 y hy; have := hb.1 y hy; omega) (by omega)
    apply Ev.succ
    simp only [impl_SystematicIn.l0, if_pos (show (t : Int) < D by omega), hol, if_pos (show 0 ≤ (n : Int) by omega), Int.toNat_natCast, if_pos (show n ≤ 35184372088832 by omega)]
    have h3 := si_l1 D nums o n hD hn hn40 hv hol ho (t : Int) (by omega) (sysM D nums o n t).1 (sysM D nums o n t).2 (s := ((sysM D nums o n D.toNat).1, (sysM D nums o n D.toNat).2, true)) n 0 (t : Int) (List.replicate n 0) (by omega) (by simp) (by omega) (by omega) (by
      rw [List.drop_zero]
      refine Ev.bind h2 ?_
      rw [show ((t : Int) + 1) = ((t + 1 : Nat) : Int) by omega]
      exact h1)
    rw [hol] at h3
    exact h3
/-- What SystematicIn answers. -/
theorem sysin_ev (D : Int) (nums o : List Int) (hn : nums.length ≤ 1048576) (hol : o.length ≤ 1048576) : Ev (fun k => impl_SystematicIn.f k D nums o) (if VV D nums = true ∧ o.length = nums.length ∧ RSET (o.mergeSort (fun x y => decide (x ≤ y))) ((o.length : Int) - 1) = true then ((sysM D nums o o.length D.toNat).1, (sysM D nums o o.length D.toNat).2, true) else ([], [], false)) := by
  have hno : Ev (fun k => impl_SystematicIn.j0 k o true D nums) ([], [], false) := by
    apply Ev.succ
    simp only [impl_SystematicIn.j0, if_true]
    exact Ev.now _
  unfold impl_SystematicIn.f
  refine Ev.bind (validValues_ev D nums (by omega)) ?_
  cases hV : VV D nums with
  | false =>
    simp only [Bool.false_eq_true, if_false, false_and]
    exact hno
  | true =>
    simp only [if_true, true_and]
    by_cases c : o.length = nums.length
    · simp only [if_pos (show (o.length : Int) = (nums.length : Int) by omega), if_pos (show 0 ≤ (o.length : Int) by omega), Int.toNat_natCast, if_pos (show o.length ≤ 17592186043904 by omega), impl_size_int64.f, Option.bind_some]
      refine Ev.bind (isSet_ev _ _ (by rw [List.length_mergeSort]; omega) (by omega) (by omega)) ?_
      cases hR : RSET (o.mergeSort (fun x y => decide (x ≤ y))) ((o.length : Int) - 1) with
      | false =>
        simp only [Bool.not_false, Bool.false_eq_true, and_false, if_false]
        exact hno
      | true =>
        rw [if_pos ⟨c, rfl⟩]
        simp only [VV, Bool.and_eq_true, decide_eq_true_eq, List.all_eq_true] at hV
        obtain ⟨hd, h40, hx⟩ := hV
        have hin : ∀ x ∈ o, 0 ≤ x ∧ x < (o.length : Int) := fun x hx' => by
          have := rs_mem hR x ((List.mergeSort_perm o _).mem_iff.2 hx')
          omega
        apply Ev.succ
        simp only [impl_SystematicIn.j0, Bool.not_true, Bool.false_eq_true, if_false]
        exact si_l0 D nums o o.length hd (by omega) (by omega) hx rfl hin D.toNat 0 (by omega)
    · simp only [if_neg (show ¬ (o.length : Int) = (nums.length : Int) by omega), c, false_and, if_false]
      exact hno

/-! impl.SystematicMixture -/
theorem sm_l0' (D : Int) (nums : List Int) (hn : nums.length ≤ 1048576) {s : List Int × List (List Int) × Bool} (hs : Ev (fun k => impl_SystematicIn.f k D nums (upI nums.length)) s) : ∀ (d i : Nat), d + i = nums.length → Ev (fun k => impl_SystematicMixture.l0 k (upI i) (nums.length : Int) (i : Int) D nums) s := by
  intro d
  induction d with
  | zero =>
    intro i hi
    have e : i = nums.length := by omega
    subst e
    apply Ev.succ
    simp only [impl_SystematicMixture.l0, if_neg (show ¬ (nums.length : Int) < (nums.length : Int) by omega)]
    exact Ev.bind hs (Ev.now _)
  | succ d ih =>
    intro i hi
    have h := ih (i + 1) (by omega)
    have e : upI (i + 1) = upI i ++ [(i : Int)] := by unfold upI; rw [List.range_succ, List.map_append]; rfl
    rw [e] at h
    apply Ev.succ
    simp only [impl_SystematicMixture.l0, if_pos (show (i : Int) < (nums.length : Int) by omega), upI_length, if_pos (show i < 17592186044416 by omega), inc (show i < nums.length by omega) (by omega)]
    exact h
theorem sysmix_ev (D : Int) (nums : List Int) (hn : nums.length ≤ 1048576) {s : List Int × List (List Int) × Bool} (hs : Ev (fun k => impl_SystematicIn.f k D nums (upI nums.length)) s) : Ev (fun k => impl_SystematicMixture.f k D nums) s := sm_l0' D nums hn hs nums.length 0 (by omega)

/-! the law -/
theorem upI_ord (n : Nat) : ORD (upI n) n := ⟨upI_length n, fun x hx => upI_mem.1 hx, upI_nodup n⟩
/-- Both answers. -/
theorem sm_both (D : Int) (nums : List Int) (hn : nums.length ≤ 1048576) : ∃ r : List Int × List (List Int) × Bool, Ev (fun k => spec_SystematicMixture.f k D nums) r ∧ Ev (fun k => impl_SystematicMixture.f k D nums) r ∧ r.1.length ≤ 1048576 ∧ r.2.1.length ≤ 1048576 ∧ ∀ x ∈ r.2.1, x.length ≤ 1048576 := by
  have hi := sysin_ev D nums (upI nums.length) hn (by rw [upI_length]; omega)
  have hO := upI_ord nums.length
  cases hV : VV D nums with
  | true =>
    rw [if_pos ⟨hV, hO.1, (ord_iff (upI nums.length) nums.length hO.1).2 hO⟩] at hi
    have hV2 := hV
    simp only [VV, Bool.and_eq_true, decide_eq_true_eq, List.all_eq_true] at hV2
    obtain ⟨hd, h40, hx⟩ := hV2
    have hs := sysx_ev D nums (upI nums.length) nums.length hd rfl (by omega) hx hO.1 hO.2.1
    rw [hO.1] at hi
    obtain ⟨g1, g2, g3, g4, g5, g6⟩ := sysM_inv D nums (upI nums.length) nums.length D.toNat
    refine ⟨_, ?_, sysmix_ev D nums hn hi, by simp only; omega, by simp only; omega, fun x hx' => ?_⟩
    · unfold spec_SystematicMixture.f
      refine Ev.bind ((l01Is_ev D nums (by omega)).to hV) ?_
      simp only [if_true]
      exact Ev.bind (all4_ev nums.length (by omega)) (Ev.bind hs (Ev.now _))
    · obtain ⟨s, _, rfl⟩ := (g5 x).1 hx'
      rw [srow_length, List.length_replicate]; omega
  | false =>
    rw [if_neg (fun h => by rw [hV] at h; cases h.1)] at hi
    refine ⟨([], [], false), ?_, sysmix_ev D nums hn hi, by simp, by simp, by simp⟩
    unfold spec_SystematicMixture.f
    refine Ev.bind ((l01Is_ev D nums (by omega)).to hV) ?_
    simp only [Bool.false_eq_true, if_false]
    exact Ev.now _
theorem FnExactSystematicMixture : laws_FnExactSystematicMixture.Pure := by
  intro d v _ hv _
  apply Ev.rounds
  unfold laws_FnExactSystematicMixture.f
  obtain ⟨q, hq, hq2⟩ := szValues_ev d v 1048576 hv (by omega) (by omega)
  simp only [hq, Option.bind_some]
  rcases hq2 with rfl | ⟨q0, q1, q2⟩
  · simp only [if_pos (show (-1 : Int) < 0 by omega)]
    exact Ev.now _
  simp only [if_neg (show ¬ q < 0 by omega)]
  have htv := toValues_ev d v q2
  obtain ⟨⟨W, L, b⟩, hs, hi, n1, n2, n3⟩ := sm_both d v q2
  simp only at n1 n2 n3
  have he := eqMixture_ev W L n1 n2 n3
  have hb := mtt_bnd L (1 + (W.length : Int)) 1048576 n3
  have hh := heldMix_ev W.length L 1 n1 n2 n3 (by omega) (by omega)
  refine Ev.bind htv (Ev.bind hs (Ev.bind htv (Ev.bind hi (Ev.bind he ?_))))
  simp only [if_true]
  refine Ev.bind htv (Ev.bind (eqValues_ev d v (by omega)) ?_)
  simp only [if_true]
  refine Ev.bind (markValues_ev d v 1 (by omega) (by omega) (by omega)) ?_
  simp only [if_neg (show ¬ (1 + (v.length : Int)) < 0 by omega)]
  refine Ev.bind he ?_
  simp only [if_true]
  refine Ev.bind (markMixk_ev W L 1 n1 n2 n3 (by omega) (by omega)) (Ev.bind hh ?_)
  simp only [if_neg (show ¬ mtot_ (1 + (W.length : Int)) L < 0 by omega), if_true]
  refine Ev.bind htv (Ev.bind hi (Ev.bind he ?_))
  simp only [if_true]
  refine Ev.bind hh ?_
  simp only [if_neg (show ¬ mtot_ (1 + (W.length : Int)) L < 0 by omega), if_true]
  exact Ev.now _


end Go.Proofs.Ytlhpejabdmejbaa.Pure
