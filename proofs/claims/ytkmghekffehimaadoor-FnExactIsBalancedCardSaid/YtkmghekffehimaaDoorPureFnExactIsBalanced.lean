/- Proved: the pure half of the law FnExactIsBalanced: the printed functions answer true, for every input. No condition. -/
import Derived.Test.YtkmghekffehimaaDoorPFnExactIsBalancedx4
import Derived.Test.YtkmghekffehimaaDoorBase
import Derived.Test.YtkmghekffehimaaDoorLists
import Derived.Test.YtkmghekffehimaaDoorWords
import Derived.Test.YtkmghekffehimaaDoorBalance
namespace Go.Proofs.YtkmghekffehimaaDoor.Pure
open Go.RowKit Go.Proofs.YtkmghekffehimaaDoor.PFnExactIsBalanced Go.Proofs.YtkmghekffehimaaDoorW.PrintWords Go.Proofs.YtkmghekffehimaaDoorW.PrintLast Go.Proofs.YtkmghekffehimaaDoorW.PrintMore Go.Proofs.YtkmghekffehimaaDoor.Base
set_option linter.unusedVariables false
set_option linter.unusedSimpArgs false

/-! spec.l07Is -/
theorem sWORD_ev (s : ByteArray) (hs : s.size ≤ 1000000000000000) : Ev (fun k => spec_l07Is.f k s) (WORD s) := by
  unfold spec_l07Is.f WORD LET
  refine all_step s.size (fun i => decide (bt s (i : Int) = 97 ∨ bt s (i : Int) = 98)) (fun k i => spec_l07Is.l0 k s i) ?_ ?_
  · apply Ev.succ
    simp only [spec_l07Is.l0, if_neg (show ¬ (s.size : Int) < s.size by omega)]
    exact Ev.now _
  · intro i hi r hr
    apply Ev.succ
    simp only [spec_l07Is.l0, if_pos (show (i : Int) < s.size by omega), if_pos (show 0 ≤ (i : Int) by omega), inc hi (by omega)]
    by_cases c1 : bt s (i : Int) = 97
    · simp only [if_pos c1, decide_eq_true (show bt s (i : Int) = 97 ∨ bt s (i : Int) = 98 from .inl c1), Bool.true_and]
      exact hr
    · by_cases c2 : bt s (i : Int) = 98
      · simp only [if_neg c1, if_pos c2, decide_eq_true (show bt s (i : Int) = 97 ∨ bt s (i : Int) = 98 from .inr c2), Bool.true_and]
        exact hr
      · simp only [if_neg c1, if_neg c2, decide_eq_false (show ¬ (bt s (i : Int) = 97 ∨ bt s (i : Int) = 98) by omega), Bool.false_and]
        exact Ev.now _

/-! spec.l07Heights -/
theorem sHT_l0 (s : ByteArray) (hw : WORD s = true) : ∀ (d i : Nat), d + i = s.size → Ev (fun k => spec_l07Heights.l0 k s ((List.range (i + 1)).map (hgt s)) i) (HT s) := by
  obtain ⟨h1, h2⟩ := word_facts hw
  intro d
  induction d with
  | zero =>
    intro i hd
    apply Ev.succ
    simp only [spec_l07Heights.l0, if_neg (show ¬ (i : Int) < s.size by omega)]
    rw [show i = s.size by omega]
    exact Ev.now _
  | succ d ih =>
    intro i hd
    have hi : i < s.size := by omega
    have hr := hgt_range s i
    have e : wrap64 (hgt s i + (bt s (i : Int) - 97) % 256) = hgt s (i + 1) := by
      rw [show hgt s (i + 1) = hgt s i + (if bt s (i : Int) = 98 then 1 else 0) from rfl]
      rcases h2 i hi with e | e
      · rw [e, if_neg (by omega), w64 (by omega) (by omega)]; omega
      · rw [e, if_pos rfl, w64 (by omega) (by omega)]; omega
    have := ih (i + 1) (by omega)
    rw [List.range_succ, List.map_append] at this
    apply Ev.succ
    simp only [spec_l07Heights.l0, if_pos (show (i : Int) < s.size by omega), if_pos (show 0 ≤ (i : Int) by omega), List.length_map, List.length_range, if_pos (show (i : Int) < ((i + 1 : Nat) : Int) by omega), if_pos (show i + 1 < 17592186044416 by omega), ht_take_get s (show i < i + 1 by omega), e, inc hi (by omega)]
    exact this
theorem sHT_ev (s : ByteArray) (hw : WORD s = true) : Ev (fun k => spec_l07Heights.f k s) (HT s) := sHT_l0 s hw s.size 0 (by omega)

/-! spec.l00Max -/
theorem max_eq (a b : Int) : spec_l00Max.f a b = some (max a b) := by
  unfold spec_l00Max.f
  by_cases h : a > b
  · rw [if_pos h, Int.max_eq_left (by omega)]
  · rw [if_neg h, Int.max_eq_right (by omega)]

/-! spec.l00Min -/
theorem min_eq (a b : Int) : spec_l00Min.f a b = some (min a b) := by
  unfold spec_l00Min.f
  by_cases h : a < b
  · rw [if_pos h, Int.min_eq_left (by omega)]
  · rw [if_neg h, Int.min_eq_right (by omega)]

/-! spec.l07Balanced -/
theorem sBAL_l1 (s : ByteArray) (h1 : s.size ≤ 120) (n : Nat) (hn : n ≤ s.size) {R : Bool} (hs : Ev (fun k => spec_l07Balanced.l0 k (HT s) ((n : Int) + 1)) R) : ∀ (e j : Nat) (a b : Int), e + j = s.size + 1 - n → 0 ≤ a → a ≤ 120 → 0 ≤ b → b ≤ 120 → Ev (fun k => spec_l07Balanced.l1 k (HT s) n a b j) (decide (mxG s n e j b - mnG s n e j a ≤ 1) && R) := by
  intro e
  induction e with
  | zero =>
    intro j a b he a0 a1 b0 b1
    refine Ev.to ?_ (show (decide (b - a ≤ 1) && R) = _ from rfl)
    apply Ev.succ
    simp only [spec_l07Balanced.l1, ht_length, w64 (show (-9223372036854775808) ≤ (j : Int) + n by omega) (by omega), if_neg (show ¬ (j : Int) + n < ((s.size + 1 : Nat) : Int) by omega), w64 (show (-9223372036854775808) ≤ a + 1 by omega) (by omega), w64 (show (-9223372036854775808) ≤ (n : Int) + 1 by omega) (by omega)]
    by_cases c : b > a + 1
    · simp only [if_pos c, decide_eq_false (show ¬ b - a ≤ 1 by omega), Bool.false_and]
      exact Ev.now _
    · simp only [if_neg c, decide_eq_true (show b - a ≤ 1 by omega), Bool.true_and]
      exact hs
  | succ e ih =>
    intro j a b he a0 a1 b0 b1
    have hr := rise_range s n j
    have g1 := ht_get s (show j + n ≤ s.size by omega)
    have g2 := ht_get s (show j ≤ s.size by omega)
    have hj := hgt_range s j
    have hjn := hgt_range s (j + n)
    rw [show ((j + n : Nat) : Int) = (j : Int) + n by omega] at g1
    apply Ev.succ
    simp only [spec_l07Balanced.l1, ht_length, w64 (show (-9223372036854775808) ≤ (j : Int) + n by omega) (by omega), if_pos (show (j : Int) + n < ((s.size + 1 : Nat) : Int) by omega), if_pos (show 0 ≤ (j : Int) + n by omega), if_pos (show 0 ≤ (j : Int) by omega), if_pos (show (j : Int) < ((s.size + 1 : Nat) : Int) by omega), g1, g2, w64 (show (-9223372036854775808) ≤ hgt s (j + n) - hgt s j by omega) (by omega), min_eq, max_eq, Option.bind_some, w64 (show (-9223372036854775808) ≤ (j : Int) + 1 by omega) (by omega)]
    have := ih (j + 1) (min a (rise s n j)) (max b (rise s n j)) (by omega) (by omega) (by omega) (by omega) (by omega)
    exact this
theorem sBAL_l0 (s : ByteArray) (h1 : s.size ≤ 120) : ∀ (e n : Nat), 1 ≤ n → e + n = s.size + 1 → Ev (fun k => spec_l07Balanced.l0 k (HT s) n) (((List.range (s.size + 1)).drop n).all (okN s)) := by
  intro e
  induction e with
  | zero =>
    intro n hn he
    apply Ev.succ
    simp only [spec_l07Balanced.l0, ht_length, if_neg (show ¬ (n : Int) < ((s.size + 1 : Nat) : Int) by omega)]
    rw [drop_all_end _ (by omega)]
    exact Ev.now _
  | succ e ih =>
    intro n hn he
    have hh := hgt_range s n
    have := sBAL_l1 s h1 n (by omega) (ih (n + 1) (by omega) (by omega)) (s.size + 1 - n) 0 (hgt s n) (hgt s n) (by omega) (by omega) (by omega) (by omega) (by omega)
    apply Ev.succ
    simp only [spec_l07Balanced.l0, ht_length, if_pos (show (n : Int) < ((s.size + 1 : Nat) : Int) by omega), if_pos (show 0 ≤ (n : Int) by omega), ht_get s (show n ≤ s.size by omega)]
    rw [drop_all _ (by omega)]
    exact this
theorem sBAL_ev (s : ByteArray) (hw : WORD s = true) : Ev (fun k => spec_l07Balanced.f k s) (BAL s) := by
  unfold spec_l07Balanced.f
  refine Ev.bind (sHT_ev s hw) ?_
  exact sBAL_l0 s (word_facts hw).1 s.size 1 (by omega) (by omega)

/-! impl.IsWord -/
theorem iWORD_eq (s : ByteArray) : impl_IsWord.f s = some (WORD s) := by
  unfold impl_IsWord.f WORD
  by_cases h : (s.size : Int) ≤ 120
  · have e : (Go.Lib.trimS s.data.toList [97, 98] == ([] : List UInt8)) = LET s := by
      rw [Bool.eq_iff_iff, beq_iff_eq, trim_nil, let_iff]
    simp only [if_pos h, strings_Trim.f, decide_eq_true h, Bool.and_true]
    rw [if_pos ⟨by first | trivial | rfl, by omega⟩, Option.bind_some]
    simp only [toListD]
    rw [e]
  · simp only [if_neg h, decide_eq_false h, Bool.and_false]

/-! impl.bit -/
theorem bit_eq (b : Bool) : impl_bit.f b = some (if b then 1 else 0) := by
  unfold impl_bit.f; cases b <;> rfl

/-! impl.heights -/
theorem iHT_l0 (s : ByteArray) (h1 : s.size ≤ 120) : ∀ (d i : Nat), d + i = s.size → Ev (fun k => impl_heights.l0 k s ((List.range (i + 1)).map (hgt s)) (s.size : Int) i) (HT s) := by
  intro d
  induction d with
  | zero =>
    intro i hd
    apply Ev.succ
    simp only [impl_heights.l0, if_neg (show ¬ (i : Int) < s.size by omega)]
    rw [show i = s.size by omega]
    exact Ev.now _
  | succ d ih =>
    intro i hd
    have hi : i < s.size := by omega
    have hr := hgt_range s i
    have e : wrap64 (hgt s i + (if (bt s (i : Int) == 98) = true then 1 else 0)) = hgt s (i + 1) := by
      rw [show hgt s (i + 1) = hgt s i + (if bt s (i : Int) = 98 then 1 else 0) from rfl]
      by_cases c : bt s (i : Int) = 98
      · rw [if_pos (by rw [c]; rfl), if_pos c, w64 (by omega) (by omega)]
      · rw [if_neg (by simpa using c), if_neg c, w64 (by omega) (by omega)]
    have := ih (i + 1) (by omega)
    rw [List.range_succ, List.map_append] at this
    apply Ev.succ
    simp only [impl_heights.l0, if_pos (show (i : Int) < s.size by omega), if_pos (show 0 ≤ (i : Int) by omega), List.length_map, List.length_range, if_pos (show (i : Int) < ((i + 1 : Nat) : Int) by omega), if_pos (show i + 1 < 17592186044416 by omega), ht_take_get s (show i < i + 1 by omega), bit_eq, Option.bind_some, e, inc hi (by omega)]
    exact this
theorem iHT_ev (s : ByteArray) (h1 : s.size ≤ 120) : Ev (fun k => impl_heights.f k s) (HT s) := iHT_l0 s h1 s.size 0 (by omega)

/-! impl.IsBalanced -/
theorem mx_maxB (a b : Int) : mx a b = max a b := by
  unfold mx; omega
theorem mn_minB (a b : Int) : mn a b = min a b := by
  unfold mn; omega
theorem iBAL_l1 (s : ByteArray) (h1 : s.size ≤ 120) (n : Nat) (hn : n ≤ s.size) {R : Bool} (hs : Ev (fun k => impl_IsBalanced.l0 k (HT s) ((s.size + 1 : Nat) : Int) ((n : Int) + 1)) R) : ∀ (e j : Nat) (a b : Int) (x : Int), x = (j : Int) + n → e + j = s.size + 1 - n → 0 ≤ a → a ≤ 120 → 0 ≤ b → b ≤ 120 → Ev (fun k => impl_IsBalanced.l1 k (HT s) n a b x ((s.size + 1 : Nat) : Int) n) (decide (mxG s n e j b - mnG s n e j a ≤ 1) && R) := by
  intro e
  induction e with
  | zero =>
    intro j a b x hx he a0 a1 b0 b1
    refine Ev.to ?_ (show (decide (b - a ≤ 1) && R) = _ from rfl)
    apply Ev.succ
    simp only [impl_IsBalanced.l1, ht_length, if_neg (show ¬ x < ((s.size + 1 : Nat) : Int) by omega), w64 (show (-9223372036854775808) ≤ b - a by omega) (by omega), w64 (show (-9223372036854775808) ≤ (n : Int) + 1 by omega) (by omega)]
    by_cases c : b - a > 1
    · simp only [if_pos c, decide_eq_false (show ¬ b - a ≤ 1 by omega), Bool.false_and]
      exact Ev.now _
    · simp only [if_neg c, decide_eq_true (show b - a ≤ 1 by omega), Bool.true_and]
      exact hs
  | succ e ih =>
    intro j a b x hx he a0 a1 b0 b1
    have hr := rise_range s n j
    have g1 := ht_get s (show j + n ≤ s.size by omega)
    have g2 := ht_get s (show j ≤ s.size by omega)
    have hj := hgt_range s j
    have hjn := hgt_range s (j + n)
    rw [show ((j + n : Nat) : Int) = x by omega] at g1
    apply Ev.succ
    simp only [impl_IsBalanced.l1, ht_length, if_pos (show x < ((s.size + 1 : Nat) : Int) by omega), if_pos (show 0 ≤ x by omega), show x - n = (j : Int) by omega, w64 (show (-9223372036854775808) ≤ (j : Int) by omega) (by omega), if_pos (show 0 ≤ (j : Int) by omega), if_pos (show (j : Int) < ((s.size + 1 : Nat) : Int) by omega), g1, g2, w64 (show (-9223372036854775808) ≤ hgt s (j + n) - hgt s j by omega) (by omega), mn_minB, mx_maxB, w64 (show (-9223372036854775808) ≤ x + 1 by omega) (by omega)]
    exact ih (j + 1) (min a (rise s n j)) (max b (rise s n j)) (x + 1) (by omega) (by omega) (by omega) (by omega) (by omega) (by omega)
theorem iBAL_l0 (s : ByteArray) (h1 : s.size ≤ 120) : ∀ (e n : Nat), e + n = s.size + 1 → Ev (fun k => impl_IsBalanced.l0 k (HT s) ((s.size + 1 : Nat) : Int) n) (((List.range (s.size + 1)).drop n).all (okN s)) := by
  intro e
  induction e with
  | zero =>
    intro n he
    apply Ev.succ
    simp only [impl_IsBalanced.l0, if_neg (show ¬ (n : Int) < ((s.size + 1 : Nat) : Int) by omega)]
    rw [drop_all_end _ (by omega)]
    exact Ev.now _
  | succ e ih =>
    intro n he
    have hh := hgt_range s n
    have := iBAL_l1 s h1 n (by omega) (ih (n + 1) (by omega)) (s.size + 1 - n) 0 (hgt s n) (hgt s n) n (by omega) (by omega) (by omega) (by omega) (by omega) (by omega)
    apply Ev.succ
    simp only [impl_IsBalanced.l0, ht_length, if_pos (show (n : Int) < ((s.size + 1 : Nat) : Int) by omega), if_pos (show 0 ≤ (n : Int) by omega), ht_get s (show n ≤ s.size by omega)]
    rw [drop_all _ (by omega)]
    exact this
def WBAL (s : ByteArray) : Bool := WORD s && BAL s
theorem iWBAL_ev (s : ByteArray) : Ev (fun k => impl_IsBalanced.f k s) (WBAL s) := by
  unfold impl_IsBalanced.f WBAL
  simp only [iWORD_eq, Option.bind_some]
  cases hw : WORD s with
  | false =>
    simp only [Bool.false_eq_true, if_false, Bool.false_and]
    exact Ev.now _
  | true =>
    have h1 := (word_facts hw).1
    simp only [if_true, Bool.true_and]
    refine Ev.bind (iHT_ev s h1) ?_
    rw [ht_length]
    refine (iBAL_l0 s h1 (s.size + 1) 0 (by omega)).to ?_
    rw [drop_all _ (by omega), okN_zero, Bool.true_and]
    rfl

/-! the law -/
theorem FnExactIsBalanced : laws_FnExactIsBalanced.Pure := by
  intro s hs
  apply Ev.rounds
  unfold laws_FnExactIsBalanced.f
  by_cases h : (s.size : Int) > 1048576
  · simp only [if_pos h]
    exact Ev.now _
  · simp only [if_neg h]
    have key : Ev (fun k => spec_IsBalanced.f k s) (WBAL s) := by
      unfold spec_IsBalanced.f WBAL
      refine Ev.bind (sWORD_ev s (by omega)) ?_
      cases hw : WORD s with
      | false =>
        simp only [Bool.false_eq_true, if_false, Bool.false_and]
        exact Ev.now _
      | true =>
        simp only [if_true, Bool.true_and]
        exact Ev.bind (sBAL_ev s hw) (Ev.now _)
    refine Ev.bind key (Ev.bind (iWBAL_ev s) ?_)
    simp only [bne_self_eq_false, Bool.false_eq_true, if_false]
    exact Ev.now _


end Go.Proofs.YtkmghekffehimaaDoor.Pure
