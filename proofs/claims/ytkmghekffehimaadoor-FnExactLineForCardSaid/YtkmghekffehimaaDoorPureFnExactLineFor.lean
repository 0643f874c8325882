/- Proved: the pure half of the law FnExactLineFor: the printed functions answer true, for every input. No condition. -/
import Derived.Test.YtkmghekffehimaaDoorPFnExactLineForx5
import Derived.Test.YtkmghekffehimaaDoorBase
import Derived.Test.YtkmghekffehimaaDoorLists
import Derived.Test.YtkmghekffehimaaDoorWords
import Derived.Test.YtkmghekffehimaaDoorBalance
import Derived.Test.YtkmghekffehimaaDoorLine
import Derived.Test.YtkmghekffehimaaDoorGcd
import Derived.Test.YtkmghekffehimaaDoorSlopes
import Derived.Test.YtkmghekffehimaaDoorLineFor
namespace Go.Proofs.YtkmghekffehimaaDoor.Pure
open Go.RowKit Go.Proofs.YtkmghekffehimaaDoor.PFnExactLineFor Go.Proofs.YtkmghekffehimaaDoorW.PrintWords Go.Proofs.YtkmghekffehimaaDoorW.PrintLast Go.Proofs.YtkmghekffehimaaDoorW.PrintMore Go.Proofs.YtkmghekffehimaaDoor.Base
set_option linter.unusedVariables false
set_option linter.unusedSimpArgs false

/-! spec.l07Is -/
theorem sWORD_ev (s : ByteArray) (hs : s.size ≤ 1000000000000000) : Ev (fun k => spec_l07Is.f k s) (WORD s) := by
  unfold spec_l07Is.f WORD LET
  refine all_step s.size (fun i => decide (bt s (i : Int) = 97 ∨ bt s (i : Int) = 98)) (fun k i => spec_l07Is.l0 k s i) ?_ ?_
  · apply Ev.succ
    simp only [spec_l07Is.l0, if_neg (show ¬ (s.size : Int) < s.size by omega)]
    exact Ev.now _
  · intro i hi r hr
    apply Ev.succ
    simp only [spec_l07Is.l0, if_pos (show (i : Int) < s.size by omega), if_pos (show 0 ≤ (i : Int) by omega), inc hi (by omega)]
    by_cases c1 : bt s (i : Int) = 97
    · simp only [if_pos c1, decide_eq_true (show bt s (i : Int) = 97 ∨ bt s (i : Int) = 98 from .inl c1), Bool.true_and]
      exact hr
    · by_cases c2 : bt s (i : Int) = 98
      · simp only [if_neg c1, if_pos c2, decide_eq_true (show bt s (i : Int) = 97 ∨ bt s (i : Int) = 98 from .inr c2), Bool.true_and]
        exact hr
      · simp only [if_neg c1, if_neg c2, decide_eq_false (show ¬ (bt s (i : Int) = 97 ∨ bt s (i : Int) = 98) by omega), Bool.false_and]
        exact Ev.now _

/-! spec.l07Heights -/
theorem sHT_l0 (s : ByteArray) (hw : WORD s = true) : ∀ (d i : Nat), d + i = s.size → Ev (fun k => spec_l07Heights.l0 k s ((List.range (i + 1)).map (hgt s)) i) (HT s) := by
  obtain ⟨h1, h2⟩ := word_facts hw
  intro d
  induction d with
  | zero =>
    intro i hd
    apply Ev.succ
    simp only [spec_l07Heights.l0, if_neg (show ¬ (i : Int) < s.size by omega)]
    rw [show i = s.size by omega]
    exact Ev.now _
  | succ d ih =>
    intro i hd
    have hi : i < s.size := by omega
    have hr := hgt_range s i
    have e : wrap64 (hgt s i + (bt s (i : Int) - 97) % 256) = hgt s (i + 1) := by
      rw [show hgt s (i + 1) = hgt s i + (if bt s (i : Int) = 98 then 1 else 0) from rfl]
      rcases h2 i hi with e | e
      · rw [e, if_neg (by omega), w64 (by omega) (by omega)]; omega
      · rw [e, if_pos rfl, w64 (by omega) (by omega)]; omega
    have := ih (i + 1) (by omega)
    rw [List.range_succ, List.map_append] at this
    apply Ev.succ
    simp only [spec_l07Heights.l0, if_pos (show (i : Int) < s.size by omega), if_pos (show 0 ≤ (i : Int) by omega), List.length_map, List.length_range, if_pos (show (i : Int) < ((i + 1 : Nat) : Int) by omega), if_pos (show i + 1 < 17592186044416 by omega), ht_take_get s (show i < i + 1 by omega), e, inc hi (by omega)]
    exact this
theorem sHT_ev (s : ByteArray) (hw : WORD s = true) : Ev (fun k => spec_l07Heights.f k s) (HT s) := sHT_l0 s hw s.size 0 (by omega)

/-! spec.l00Max -/
theorem max_eq (a b : Int) : spec_l00Max.f a b = some (max a b) := by
  unfold spec_l00Max.f
  by_cases h : a > b
  · rw [if_pos h, Int.max_eq_left (by omega)]
  · rw [if_neg h, Int.max_eq_right (by omega)]

/-! spec.l00Min -/
theorem min_eq (a b : Int) : spec_l00Min.f a b = some (min a b) := by
  unfold spec_l00Min.f
  by_cases h : a < b
  · rw [if_pos h, Int.min_eq_left (by omega)]
  · rw [if_neg h, Int.min_eq_right (by omega)]

/-! impl.IsWord -/
theorem iWORD_eq (s : ByteArray) : impl_IsWord.f s = some (WORD s) := by
  unfold impl_IsWord.f WORD
  by_cases h : (s.size : Int) ≤ 120
  · have e : (Go.Lib.trimS s.data.toList [97, 98] == ([] : List UInt8)) = LET s := by
      rw [Bool.eq_iff_iff, beq_iff_eq, trim_nil, let_iff]
    simp only [if_pos h, strings_Trim.f, decide_eq_true h, Bool.and_true]
    rw [if_pos ⟨by first | trivial | rfl, by omega⟩, Option.bind_some]
    simp only [toListD]
    rw [e]
  · simp only [if_neg h, decide_eq_false h, Bool.and_false]

/-! impl.bit -/
theorem bit_eq (b : Bool) : impl_bit.f b = some (if b then 1 else 0) := by
  unfold impl_bit.f; cases b <;> rfl

/-! impl.heights -/
theorem iHT_l0 (s : ByteArray) (h1 : s.size ≤ 120) : ∀ (d i : Nat), d + i = s.size → Ev (fun k => impl_heights.l0 k s ((List.range (i + 1)).map (hgt s)) (s.size : Int) i) (HT s) := by
  intro d
  induction d with
  | zero =>
    intro i hd
    apply Ev.succ
    simp only [impl_heights.l0, if_neg (show ¬ (i : Int) < s.size by omega)]
    rw [show i = s.size by omega]
    exact Ev.now _
  | succ d ih =>
    intro i hd
    have hi : i < s.size := by omega
    have hr := hgt_range s i
    have e : wrap64 (hgt s i + (if (bt s (i : Int) == 98) = true then 1 else 0)) = hgt s (i + 1) := by
      rw [show hgt s (i + 1) = hgt s i + (if bt s (i : Int) = 98 then 1 else 0) from rfl]
      by_cases c : bt s (i : Int) = 98
      · rw [if_pos (by rw [c]; rfl), if_pos c, w64 (by omega) (by omega)]
      · rw [if_neg (by simpa using c), if_neg c, w64 (by omega) (by omega)]
    have := ih (i + 1) (by omega)
    rw [List.range_succ, List.map_append] at this
    apply Ev.succ
    simp only [impl_heights.l0, if_pos (show (i : Int) < s.size by omega), if_pos (show 0 ≤ (i : Int) by omega), List.length_map, List.length_range, if_pos (show (i : Int) < ((i + 1 : Nat) : Int) by omega), if_pos (show i + 1 < 17592186044416 by omega), ht_take_get s (show i < i + 1 by omega), bit_eq, Option.bind_some, e, inc hi (by omega)]
    exact this
theorem iHT_ev (s : ByteArray) (h1 : s.size ≤ 120) : Ev (fun k => impl_heights.f k s) (HT s) := iHT_l0 s h1 s.size 0 (by omega)

/-! impl.IsBalanced -/
theorem mx_maxB (a b : Int) : mx a b = max a b := by
  unfold mx; omega
theorem mn_minB (a b : Int) : mn a b = min a b := by
  unfold mn; omega
theorem iBAL_l1 (s : ByteArray) (h1 : s.size ≤ 120) (n : Nat) (hn : n ≤ s.size) {R : Bool} (hs : Ev (fun k => impl_IsBalanced.l0 k (HT s) ((s.size + 1 : Nat) : Int) ((n : Int) + 1)) R) : ∀ (e j : Nat) (a b : Int) (x : Int), x = (j : Int) + n → e + j = s.size + 1 - n → 0 ≤ a → a ≤ 120 → 0 ≤ b → b ≤ 120 → Ev (fun k => impl_IsBalanced.l1 k (HT s) n a b x ((s.size + 1 : Nat) : Int) n) (decide (mxG s n e j b - mnG s n e j a ≤ 1) && R) := by
  intro e
  induction e with
  | zero =>
    intro j a b x hx he a0 a1 b0 b1
    refine Ev.to ?_ (show (decide (b - a ≤ 1) && R) = _ from rfl)
    apply Ev.succ
    simp only [impl_IsBalanced.l1, ht_length, if_neg (show ¬ x < ((s.size + 1 : Nat) : Int) by omega), w64 (show (-9223372036854775808) ≤ b - a by omega) (by omega), w64 (show (-9223372036854775808) ≤ (n : Int) + 1 by omega) (by omega)]
    by_cases c : b - a > 1
    · simp only [if_pos c, decide_eq_false (show ¬ b - a ≤ 1 by omega), Bool.false_and]
      exact Ev.now _
    · simp only [if_neg c, decide_eq_true (show b - a ≤ 1 by omega), Bool.true_and]
      exact hs
  | succ e ih =>
    intro j a b x hx he a0 a1 b0 b1
    have hr := rise_range s n j
    have g1 := ht_get s (show j + n ≤ s.size by omega)
    have g2 := ht_get s (show j ≤ s.size by omega)
    have hj := hgt_range s j
    have hjn := hgt_range s (j + n)
    rw [show ((j + n : Nat) : Int) = x by omega] at g1
    apply Ev.succ
    simp only [impl_IsBalanced.l1, ht_length, if_pos (show x < ((s.size + 1 : Nat) : Int) by omega), if_pos (show 0 ≤ x by omega), show x - n = (j : Int) by omega, w64 (show (-9223372036854775808) ≤ (j : Int) by omega) (by omega), if_pos (show 0 ≤ (j : Int) by omega), if_pos (show (j : Int) < ((s.size + 1 : Nat) : Int) by omega), g1, g2, w64 (show (-9223372036854775808) ≤ hgt s (j + n) - hgt s j by omega) (by omega), mn_minB, mx_maxB, w64 (show (-9223372036854775808) ≤ x + 1 by omega) (by omega)]
    exact ih (j + 1) (min a (rise s n j)) (max b (rise s n j)) (x + 1) (by omega) (by omega) (by omega) (by omega) (by omega) (by omega)
theorem iBAL_l0 (s : ByteArray) (h1 : s.size ≤ 120) : ∀ (e n : Nat), e + n = s.size + 1 → Ev (fun k => impl_IsBalanced.l0 k (HT s) ((s.size + 1 : Nat) : Int) n) (((List.range (s.size + 1)).drop n).all (okN s)) := by
  intro e
  induction e with
  | zero =>
    intro n he
    apply Ev.succ
    simp only [impl_IsBalanced.l0, if_neg (show ¬ (n : Int) < ((s.size + 1 : Nat) : Int) by omega)]
    rw [drop_all_end _ (by omega)]
    exact Ev.now _
  | succ e ih =>
    intro n he
    have hh := hgt_range s n
    have := iBAL_l1 s h1 n (by omega) (ih (n + 1) (by omega)) (s.size + 1 - n) 0 (hgt s n) (hgt s n) n (by omega) (by omega) (by omega) (by omega) (by omega) (by omega)
    apply Ev.succ
    simp only [impl_IsBalanced.l0, ht_length, if_pos (show (n : Int) < ((s.size + 1 : Nat) : Int) by omega), if_pos (show 0 ≤ (n : Int) by omega), ht_get s (show n ≤ s.size by omega)]
    rw [drop_all _ (by omega)]
    exact this
def WBAL (s : ByteArray) : Bool := WORD s && BAL s
theorem iWBAL_ev (s : ByteArray) : Ev (fun k => impl_IsBalanced.f k s) (WBAL s) := by
  unfold impl_IsBalanced.f WBAL
  simp only [iWORD_eq, Option.bind_some]
  cases hw : WORD s with
  | false =>
    simp only [Bool.false_eq_true, if_false, Bool.false_and]
    exact Ev.now _
  | true =>
    have h1 := (word_facts hw).1
    simp only [if_true, Bool.true_and]
    refine Ev.bind (iHT_ev s h1) ?_
    rw [ht_length]
    refine (iBAL_l0 s h1 (s.size + 1) 0 (by omega)).to ?_
    rw [drop_all _ (by omega), okN_zero, Bool.true_and]
    rfl

/-! impl.within -/
theorem within_eq (a b c : Int) : impl_within.f a b c = some (decide (b ≤ a ∧ a ≤ c)) := by
  unfold impl_within.f
  by_cases h : b ≤ a
  · rw [if_pos h]; simp [h]
  · rw [if_neg h]; simp [h]

/-! impl.floor -/
theorem ifloor_eq {a b : Int} (hb : 0 < b) (h1 : -9223372036854775807 ≤ a) (h2 : a ≤ 9223372036854775807) : impl_floor.f a b = some (a / b) := by
  have r1 := tdiv_range hb h1 h2 (by omega)
  have hf := floorB (a := a) hb
  have e1 : wrap64 (a.tdiv b) = a.tdiv b := w64 (by omega) (by omega)
  unfold impl_floor.f
  rw [if_neg (by omega), e1]
  by_cases h : a.tmod b < 0
  · rw [if_pos h] at hf
    rw [if_pos h, w64 (by omega) (by omega), hf]
  · rw [if_neg h] at hf
    rw [if_neg h, hf]

/-! impl.steps -/
theorem iline_l0 (a den shift : Int) (n : Nat) (ha : 0 ≤ a ∧ a ≤ den) (hd : 1 ≤ den ∧ den ≤ 1000) (hs : 0 ≤ shift ∧ shift ≤ den - 1) (hn : n ≤ 999999) : ∀ (d i : Nat), d + i = n → Ev (fun k => impl_steps.l0 k a den shift 98 97 (LINE a den shift i) (n : Int) i) (strOfNums (LINE a den shift n)) := by
  intro d
  induction d with
  | zero =>
    intro i hi
    apply Ev.succ
    simp only [impl_steps.l0, if_neg (show ¬ (i : Int) < (n : Int) by omega)]
    rw [show i = n by omega]
    exact Ev.now _
  | succ d ih =>
    intro i hi
    have p0 := line_small (i := i) ha hd (by omega)
    have p1 := line_small (i := i + 1) ha hd (by omega)
    rw [Int.natCast_succ] at p1
    apply Ev.succ
    simp only [impl_steps.l0, if_pos (show (i : Int) < (n : Int) by omega), w64 (show (-9223372036854775808) ≤ (i : Int) + 1 by omega) (by omega), w64 (show (-9223372036854775808) ≤ ((i : Int) + 1) * a by omega) (by omega), w64 (show (-9223372036854775808) ≤ (i : Int) * a by omega) (by omega), w64 (show (-9223372036854775808) ≤ ((i : Int) + 1) * a + shift by omega) (by omega), w64 (show (-9223372036854775808) ≤ (i : Int) * a + shift by omega) (by omega)]
    simp only [ifloor_eq (show 0 < den by omega) (show -9223372036854775807 ≤ ((i : Int) + 1) * a + shift by omega) (by omega), ifloor_eq (show 0 < den by omega) (show -9223372036854775807 ≤ (i : Int) * a + shift by omega) (by omega), Option.bind_some, LINE_length, if_pos (show i < 140737488355328 by omega)]
    have ih1 := ih (i + 1) (by omega)
    rw [LINE_succ] at ih1
    by_cases h : (((i : Int) + 1) * a + shift) / den > ((i : Int) * a + shift) / den
    · simp only [if_pos h]
      have e : lineAt a den shift i = 98 := by unfold lineAt; rw [if_pos h]
      rw [e] at ih1
      exact ih1
    · simp only [if_neg h]
      have e : lineAt a den shift i = 97 := by unfold lineAt; rw [if_neg h]
      rw [e] at ih1
      exact ih1
theorem steps_ev (a den shift : Int) (n : Nat) (ha : 0 ≤ a ∧ a ≤ den) (hd : 1 ≤ den ∧ den ≤ 1000) (hs : 0 ≤ shift ∧ shift ≤ den - 1) (hn : n ≤ 999999) : Ev (fun k => impl_steps.f k a den shift (n : Int) 98 97) (strOfNums (LINE a den shift n)) := by
  unfold impl_steps.f
  simpa [LINE] using iline_l0 a den shift n ha hd hs hn n 0 (by omega)

/-! impl.LineWord -/
theorem iLW_ev (a den shift n : Int) : Ev (fun k => impl_LineWord.f k a den shift n) (LW a den shift n) := by
  unfold impl_LineWord.f LW
  simp only [within_eq, Option.bind_some]
  by_cases h1 : 1 ≤ den ∧ den ≤ 1000
  · rw [w64 (show (-9223372036854775808) ≤ den - 1 by omega) (by omega)]
    by_cases h2 : 0 ≤ a ∧ a ≤ den
    · by_cases h3 : 0 ≤ shift ∧ shift ≤ den - 1
      · by_cases h4 : 0 ≤ n ∧ n ≤ 120
        · simp only [decide_eq_true h1, decide_eq_true h2, decide_eq_true h3, decide_eq_true h4, if_true, if_pos (show (1 ≤ den ∧ den ≤ 1000) ∧ (0 ≤ a ∧ a ≤ den) ∧ (0 ≤ shift ∧ shift ≤ den - 1) ∧ (0 ≤ n ∧ n ≤ 120) from ⟨h1, h2, h3, h4⟩)]
          obtain ⟨m, rfl⟩ := Int.eq_ofNat_of_zero_le h4.1
          rw [Int.toNat_natCast]
          exact Ev.bind (steps_ev a den shift m h2 h1 h3 (by omega)) (Ev.now _)
        · simp only [decide_eq_true h1, decide_eq_true h2, decide_eq_true h3, decide_eq_false h4, if_true, Bool.false_eq_true, if_false, h4, and_false]
          exact Ev.now _
      · simp only [decide_eq_true h1, decide_eq_true h2, decide_eq_false h3, if_true, Bool.false_eq_true, if_false, h3, and_false, false_and]
        exact Ev.now _
    · simp only [decide_eq_true h1, decide_eq_false h2, if_true, Bool.false_eq_true, if_false, h2, and_false, false_and]
      exact Ev.now _
  · simp only [decide_eq_false h1, Bool.false_eq_true, if_false, h1, false_and]
    exact Ev.now _

/-! impl.compare -/
def cmpOf (a b : Int) : Int := if a < b then -1 else if a > b then 1 else 0
theorem compare_eq (a b : Int) : impl_compare.f a b = some (cmpOf a b) := by
  unfold impl_compare.f cmpOf
  by_cases h : a < b
  · rw [if_pos h, if_pos h]
  · rw [if_neg h, if_neg h]
    by_cases h2 : a > b
    · rw [if_pos h2, if_pos h2]
    · rw [if_neg h2, if_neg h2]
theorem cmp_pos (a b : Int) : cmpOf a b > 0 ↔ a > b := by
  unfold cmpOf; split <;> (try split) <;> omega
theorem cmp_neg (a b : Int) : cmpOf a b < 0 ↔ a < b := by
  unfold cmpOf; split <;> (try split) <;> omega
theorem cmp_nonneg (a b : Int) : cmpOf a b ≥ 0 ↔ a ≥ b := by
  unfold cmpOf; split <;> (try split) <;> omega
theorem cmp_nonpos (a b : Int) : cmpOf a b ≤ 0 ↔ a ≤ b := by
  unfold cmpOf; split <;> (try split) <;> omega

/-! impl.worth).against -/
theorem against_ev {a n b m : Int} (hn : n ≠ 0) (hm : m ≠ 0) (h1 : -9000000000000000000 ≤ a * m ∧ a * m ≤ 9000000000000000000) (h2 : -9000000000000000000 ≤ b * n ∧ b * n ≤ 9000000000000000000) : Ev (fun k => impl_worth_against.f k a n b m) (cmpOf (a * m) (b * n)) := by
  unfold impl_worth_against.f
  simp only [if_neg hn]
  apply Ev.succ
  simp only [impl_worth_against.j0, Bool.false_eq_true, if_false, if_neg hn, if_neg hm, w64 (show (-9223372036854775808) ≤ a * m by omega) (by omega), w64 (show (-9223372036854775808) ≤ b * n by omega) (by omega), compare_eq, Option.bind_some]
  exact Ev.now _

/-! impl.slopes -/
theorem islo_l1 (s : ByteArray) (hs : s.size ≤ 120) (j : Nat) (hj : j ≤ s.size) (hnext : ∀ lo ld hi hd, ENDS s (-2) (-3) (fun _ y => y < j + 1) lo ld hi hd → ∃ r : Int × Int × Int × Int, Ev (fun k => impl_slopes.l0 k (HT s) ((s.size + 1 : Nat) : Int) ((j : Int) + 1) lo ld hi hd) r ∧ ENDS s (-2) (-3) (fun _ _ => True) r.1 r.2.1 r.2.2.1 r.2.2.2) : ∀ (e i : Nat) (lo ld hi hd : Int), e + i = j → ENDS s (-2) (-3) (fun x y => y < j ∨ (y = j ∧ x < i)) lo ld hi hd → ∃ r : Int × Int × Int × Int, Ev (fun k => impl_slopes.l1 k (HT s) j ((s.size + 1 : Nat) : Int) j j i lo ld hi hd) r ∧ ENDS s (-2) (-3) (fun _ _ => True) r.1 r.2.1 r.2.2.1 r.2.2.2 := by
  intro e
  induction e with
  | zero =>
    intro i lo ld hi hd he h
    obtain ⟨r, hr, hr2⟩ := hnext lo ld hi hd ⟨h.l.mono (fun x y hxy hy hx => by omega), h.h.mono (fun x y hxy hy hx => by omega)⟩
    refine ⟨r, ?_, hr2⟩
    apply Ev.succ
    simp only [impl_slopes.l1, if_neg (show ¬ (i : Int) < (j : Int) by omega), w64 (show (-9223372036854775808) ≤ (j : Int) + 1 by omega) (by omega)]
    exact hr
  | succ e ih =>
    intro i lo ld hi' hd he h
    have hij : i < j := by omega
    have hb := ends_bnd h
    have hd2 := hgt_diff s hij hj hs
    have st := ends_step h hs hij hj
    have b1 := prod_bnd (a := hgt s j - hgt s i - 1) (b := ld) (by omega) (by omega)
    have b2 := prod_bnd (a := hgt s j - hgt s i + 1) (b := hd) (by omega) (by omega)
    have b3 := prod_bnd (a := lo) (b := (j : Int) - i) (by omega) (by omega)
    have b4 := prod_bnd (a := hi') (b := (j : Int) - i) (by omega) (by omega)
    have st' := ENDS.mk (st.l.mono (Q := fun x y => y < j ∨ (y = j ∧ x < i + 1)) (fun x y _ _ hx => by omega)) (st.h.mono (Q := fun x y => y < j ∨ (y = j ∧ x < i + 1)) (fun x y _ _ hx => by omega))
    obtain ⟨r, hr, hr2⟩ := ih (i + 1) _ _ _ _ (by omega) st'
    have a1 := against_ev (a := hgt s j - hgt s i - 1) (n := (j : Int) - i) (b := lo) (m := ld) (by omega) (by omega) (by omega) (by omega)
    have a2 := against_ev (a := hgt s j - hgt s i + 1) (n := (j : Int) - i) (b := hi') (m := hd) (by omega) (by omega) (by omega) (by omega)
    refine ⟨r, ?_, hr2⟩
    apply Ev.succ
    simp only [impl_slopes.l1, ht_length, if_pos (show (i : Int) < (j : Int) by omega), if_pos (show 0 ≤ (j : Int) by omega), if_pos (show (j : Int) < ((s.size + 1 : Nat) : Int) by omega), if_pos (show 0 ≤ (i : Int) by omega), if_pos (show (i : Int) < ((s.size + 1 : Nat) : Int) by omega), ht_get s hj, ht_get s (show i ≤ s.size by omega), w64 (show (-9223372036854775808) ≤ hgt s j - hgt s i by omega) (by omega), w64 (show (-9223372036854775808) ≤ hgt s j - hgt s i - 1 by omega) (by omega), w64 (show (-9223372036854775808) ≤ hgt s j - hgt s i + 1 by omega) (by omega), w64 (show (-9223372036854775808) ≤ (j : Int) - i by omega) (by omega), w64 (show (-9223372036854775808) ≤ (i : Int) + 1 by omega) (by omega)]
    refine Ev.bind a1 ?_
    by_cases c1 : (hgt s j - hgt s i - 1) * ld > lo * ((j : Int) - i)
    · simp only [if_pos ((cmp_pos _ _).2 c1)]
      refine Ev.bind a2 ?_
      by_cases c2 : (hgt s j - hgt s i + 1) * hd < hi' * ((j : Int) - i)
      · simp only [if_pos ((cmp_neg _ _).2 c2)]
        simp only [if_pos c1, if_pos c2] at hr
        exact hr
      · simp only [if_neg (fun h => c2 ((cmp_neg _ _).1 h))]
        simp only [if_pos c1, if_neg c2] at hr
        exact hr
    · simp only [if_neg (fun h => c1 ((cmp_pos _ _).1 h))]
      refine Ev.bind a2 ?_
      by_cases c2 : (hgt s j - hgt s i + 1) * hd < hi' * ((j : Int) - i)
      · simp only [if_pos ((cmp_neg _ _).2 c2)]
        simp only [if_neg c1, if_pos c2] at hr
        exact hr
      · simp only [if_neg (fun h => c2 ((cmp_neg _ _).1 h))]
        simp only [if_neg c1, if_neg c2] at hr
        exact hr
theorem islo_l0 (s : ByteArray) (hs : s.size ≤ 120) : ∀ (e j : Nat) (lo ld hi hd : Int), e + j = s.size + 1 → ENDS s (-2) (-3) (fun _ y => y < j) lo ld hi hd → ∃ r : Int × Int × Int × Int, Ev (fun k => impl_slopes.l0 k (HT s) ((s.size + 1 : Nat) : Int) j lo ld hi hd) r ∧ ENDS s (-2) (-3) (fun _ _ => True) r.1 r.2.1 r.2.2.1 r.2.2.2 := by
  intro e
  induction e with
  | zero =>
    intro j lo ld hi hd he h
    refine ⟨(lo, ld, hi, hd), ?_, ⟨h.l.mono (fun x y _ _ _ => by omega), h.h.mono (fun x y _ _ _ => by omega)⟩⟩
    apply Ev.succ
    simp only [impl_slopes.l0, if_neg (show ¬ (j : Int) < ((s.size + 1 : Nat) : Int) by omega)]
    exact Ev.now _
  | succ e ih =>
    intro j lo ld hi hd he h
    obtain ⟨r, hr, hr2⟩ := islo_l1 s hs j (by omega) (fun lo ld hi hd h => ih (j + 1) lo ld hi hd (by omega) h) j 0 lo ld hi hd (by omega) ⟨h.l.mono (fun x y _ _ hx => by omega), h.h.mono (fun x y _ _ hx => by omega)⟩
    refine ⟨r, ?_, hr2⟩
    apply Ev.succ
    simp only [impl_slopes.l0, if_pos (show (j : Int) < ((s.size + 1 : Nat) : Int) by omega)]
    exact hr
theorem islopes_ev (s : ByteArray) (h1 : s.size ≤ 120) : ∃ r : Int × Int × Int × Int, Ev (fun k => impl_slopes.f k s) r ∧ ENDS s (-2) (-3) (fun _ _ => True) r.1 r.2.1 r.2.2.1 r.2.2.2 := by
  obtain ⟨r, hr, hr2⟩ := islo_l0 s h1 (s.size + 1) 0 (-2) 1 3 1 (by omega) ⟨MXP.mono (MXP.start (by omega)) (fun x y _ _ hx => by omega), MXP.mono (MXP.start (by omega)) (fun x y _ _ hx => by omega)⟩
  refine ⟨r, ?_, hr2⟩
  unfold impl_slopes.f
  refine Ev.bind (iHT_ev s h1) ?_
  rw [ht_length]
  exact hr

/-! the law -/
theorem prod_lf {h den : Int} (h0 : 0 ≤ h ∧ h ≤ 121) (hd : 1 ≤ den ∧ den ≤ 1000) : 0 ≤ h * den ∧ h * den ≤ 121000 := by
  constructor
  · exact Int.mul_nonneg h0.1 (by omega)
  · have h1 := Int.mul_le_mul_of_nonneg_right h0.2 (show 0 ≤ den by omega)
    omega
theorem prod_ia {i a : Int} (h0 : 0 ≤ i ∧ i ≤ 121) (ha : 0 ≤ a ∧ a ≤ 1000) : 0 ≤ i * a ∧ i * a ≤ 121000 := by
  constructor
  · exact Int.mul_nonneg h0.1 ha.1
  · have h1 := Int.mul_le_mul_of_nonneg_right h0.2 ha.1
    omega
/-- One place of the reference's search: it finds the least shift, or goes on. -/
theorem slf_l2 (s : ByteArray) (hs : s.size ≤ 120) (den a : Int) (hd : 1 ≤ den ∧ den ≤ 1000) (ha : 0 ≤ a ∧ a ≤ den) {R : Int × Int × Int × Bool} (hn : Ev (fun k => spec_LineFor.l1 k (HT s) den (a + 1)) R) : ∀ (e i : Nat) (lo hi : Int), e + i = s.size + 1 → -1000000 ≤ lo → lo ≤ 1000000 → -1000000 ≤ hi → hi ≤ 1000000 → Ev (fun k => spec_LineFor.l2 k (HT s) den a lo hi i) (if lowF s den a e i lo ≤ hiF s den a e i hi then (a, den, lowF s den a e i lo, true) else R) := by
  intro e
  induction e with
  | zero =>
    intro i lo hi he l0 l1 h0 h1
    apply Ev.succ
    simp only [spec_LineFor.l2, ht_length, if_neg (show ¬ (i : Int) < ((s.size + 1 : Nat) : Int) by omega)]
    apply Ev.succ
    simp only [spec_LineFor.j3, Bool.false_eq_true, if_false]
    show Ev _ (if lo ≤ hi then (a, den, lo, true) else R)
    by_cases c : lo ≤ hi
    · simp only [if_pos c]
      exact Ev.now _
    · simp only [if_neg c, w64 (show (-9223372036854775808) ≤ a + 1 by omega) (by omega)]
      exact hn
  | succ e ih =>
    intro i lo hi he l0 l1 h0 h1
    have hg := hgt_range s i
    have p1 := prod_lf (h := hgt s i) (den := den) (by omega) hd
    have p2 := prod_lf (h := hgt s i + 1) (den := den) (by omega) hd
    have p3 := prod_ia (i := (i : Int)) (a := a) (by omega) (by omega)
    apply Ev.succ
    simp only [spec_LineFor.l2, ht_length, if_pos (show (i : Int) < ((s.size + 1 : Nat) : Int) by omega)]
    apply Ev.succ
    by_cases c : lo ≤ hi
    · have := ih (i + 1) (max lo (sl s den a i)) (min hi (su s den a i)) (by omega) (by omega) (by unfold sl; omega) (by unfold su; omega) (by omega)
      simp only [spec_LineFor.j3, decide_eq_true c, if_true, if_pos (show 0 ≤ (i : Int) by omega), ht_length, if_pos (show (i : Int) < ((s.size + 1 : Nat) : Int) by omega), ht_get s (show i ≤ s.size by omega), w64 (show (-9223372036854775808) ≤ hgt s i + 1 by omega) (by omega), w64 (show (-9223372036854775808) ≤ hgt s i * den by omega) (by omega), w64 (show (-9223372036854775808) ≤ (hgt s i + 1) * den by omega) (by omega), w64 (show (-9223372036854775808) ≤ (i : Int) * a by omega) (by omega), w64 (show (-9223372036854775808) ≤ hgt s i * den - (i : Int) * a by omega) (by omega), w64 (show (-9223372036854775808) ≤ (hgt s i + 1) * den - (i : Int) * a by omega) (by omega), w64 (show (-9223372036854775808) ≤ (hgt s i + 1) * den - (i : Int) * a - 1 by omega) (by omega), max_eq, min_eq, Option.bind_some, w64 (show (-9223372036854775808) ≤ (i : Int) + 1 by omega) (by omega)]
      exact this
    · have g1 := (lowF_ge s den a (e + 1) i lo).1
      have g2 := (hiF_le s den a (e + 1) i hi).1
      rw [if_neg (by omega)]
      simp only [spec_LineFor.j3, decide_eq_false c, Bool.false_eq_true, if_false, if_neg c, w64 (show (-9223372036854775808) ≤ a + 1 by omega) (by omega)]
      exact hn
theorem slf_at (s : ByteArray) (hs : s.size ≤ 120) (den a : Int) (hd : 1 ≤ den ∧ den ≤ 1000) (ha : 0 ≤ a ∧ a ≤ den) {R : Int × Int × Int × Bool} (hn : Ev (fun k => spec_LineFor.l1 k (HT s) den (a + 1)) R) : Ev (fun k => spec_LineFor.l1 k (HT s) den a) (if LOW s den a ≤ HIGH s den a then (a, den, LOW s den a, true) else R) := by
  apply Ev.succ
  simp only [spec_LineFor.l1, if_pos ha.2, w64 (show (-9223372036854775808) ≤ den - 1 by omega) (by omega)]
  exact slf_l2 s hs den a hd ha hn (s.size + 1) 0 0 (den - 1) (by omega) (by omega) (by omega) (by omega) (by omega)
/-- A line that makes the word has a slope between the ends. -/
theorem fits_between {s : ByteArray} {den a x : Int} (hs : s.size ≤ 120) (hd : 1 ≤ den) (ha : 0 ≤ a ∧ a ≤ den) (h : FITS s den a x) {lo ld hi hd' : Int} (m : ENDS s (-2) (-3) (fun _ _ => True) lo ld hi hd') : a * ld > lo * den ∧ a * hd' < hi * den := by
  have key : ∀ i j, i < j → j ≤ s.size → (hgt s j - hgt s i - 1) * den < a * ((j : Int) - i) ∧ a * ((j : Int) - i) < (hgt s j - hgt s i + 1) * den := by
    intro i j hij hj
    have h1 := h.2.2 i (by omega)
    have h2 := h.2.2 j hj
    unfold sl su at h1 h2
    have e1 : (hgt s j - hgt s i - 1) * den = hgt s j * den - hgt s i * den - den := by rw [Int.sub_mul, Int.sub_mul, Int.one_mul]
    have e2 : (hgt s j - hgt s i + 1) * den = hgt s j * den - hgt s i * den + den := by rw [Int.add_mul, Int.sub_mul, Int.one_mul]
    have e3 : a * ((j : Int) - i) = (j : Int) * a - (i : Int) * a := by rw [Int.mul_sub, Int.mul_comm a, Int.mul_comm a]
    have e4 : (hgt s i + 1) * den = hgt s i * den + den := by rw [Int.add_mul, Int.one_mul]
    have e5 : (hgt s j + 1) * den = hgt s j * den + den := by rw [Int.add_mul, Int.one_mul]
    omega
  constructor
  · rcases m.l.ex with ⟨e1, e2⟩ | ⟨i, j, hij, hj, e1, e2⟩
    · rw [e1, e2]; omega
    · rw [e1, e2]; unfold vLo; exact (key i j hij hj).1
  · rcases m.h.ex with ⟨e1, e2⟩ | ⟨i, j, hij, hj, e1, e2⟩
    · rw [show hi = 3 by omega, e2]; omega
    · have e3 : hi = hgt s j - hgt s i + 1 := by unfold vHi at e1; omega
      rw [e3, e2]; exact (key i j hij hj).2
/-- A word that a line makes is balanced. -/
theorem fits_rise {s : ByteArray} {den a x : Int} (hd : 1 ≤ den) (h : FITS s den a x) (n i j : Nat) (hi : i + n ≤ s.size) (hj : j + n ≤ s.size) : rise s n i ≤ rise s n j + 1 := by
  have h1 := h.2.2 i (by omega)
  have h2 := h.2.2 (i + n) hi
  have h3 := h.2.2 j (by omega)
  have h4 := h.2.2 (j + n) hj
  unfold sl su at h1 h2 h3 h4
  have e1 : ((i + n : Nat) : Int) * a = (i : Int) * a + (n : Int) * a := by rw [Int.natCast_add, Int.add_mul]
  have e2 : ((j + n : Nat) : Int) * a = (j : Int) * a + (n : Int) * a := by rw [Int.natCast_add, Int.add_mul]
  rw [e1] at h2
  rw [e2] at h4
  have d1 : (hgt s i + 1) * den = hgt s i * den + den := by rw [Int.add_mul, Int.one_mul]
  have d2 : (hgt s (i + n) + 1) * den = hgt s (i + n) * den + den := by rw [Int.add_mul, Int.one_mul]
  have d3 : (hgt s j + 1) * den = hgt s j * den + den := by rw [Int.add_mul, Int.one_mul]
  have d4 : (hgt s (j + n) + 1) * den = hgt s (j + n) * den + den := by rw [Int.add_mul, Int.one_mul]
  have r1 : rise s n i * den = hgt s (i + n) * den - hgt s i * den := by unfold rise; rw [Int.sub_mul]
  have r2 : (rise s n j + 2) * den = hgt s (j + n) * den - hgt s j * den + 2 * den := by unfold rise; rw [Int.add_mul, Int.sub_mul]
  have : rise s n i * den < (rise s n j + 2) * den := by omega
  have := Int.lt_of_mul_lt_mul_right this (by omega)
  omega
theorem mn_ge (s : ByteArray) (n : Nat) (B : Int) : ∀ (e j : Nat) (a : Int), B ≤ a → (∀ k, j ≤ k → k < j + e → B ≤ rise s n k) → B ≤ mnG s n e j a
  | 0, _, _, h, _ => h
  | e + 1, j, a, h, hall => by
    have := hall j (by omega) (by omega)
    exact mn_ge s n B e (j + 1) _ (by omega) (fun k h1 h2 => hall k (by omega) (by omega))
theorem mx_ex (s : ByteArray) (n : Nat) : ∀ (e j : Nat) (a : Int), mxG s n e j a = a ∨ ∃ k, j ≤ k ∧ k < j + e ∧ mxG s n e j a = rise s n k
  | 0, _, _ => .inl rfl
  | e + 1, j, a => by
    have h := mx_ex s n e (j + 1) (max a (rise s n j))
    unfold mxG
    rcases h with h | ⟨k, h1, h2, h3⟩
    · rw [h]
      by_cases c : rise s n j ≤ a
      · left; omega
      · right; exact ⟨j, by omega, by omega, by omega⟩
    · right; exact ⟨k, by omega, by omega, h3⟩
theorem fits_bal {s : ByteArray} {den a x : Int} (hd : 1 ≤ den) (h : FITS s den a x) : BAL s = true := by
  unfold BAL
  rw [List.all_eq_true]
  intro n hn
  have hn' : n ≤ s.size := by
    have := List.mem_range.1 (List.mem_of_mem_drop hn)
    omega
  have r0 : hgt s n = rise s n 0 := by unfold rise; rw [Nat.zero_add]; show _ = _ - (0 : Int); omega
  unfold okN
  rw [decide_eq_true_iff]
  have hmx : ∃ k, k + n ≤ s.size ∧ mxG s n (s.size + 1 - n) 0 (hgt s n) = rise s n k := by
    rcases mx_ex s n (s.size + 1 - n) 0 (hgt s n) with e | ⟨k, _, h2, e⟩
    · exact ⟨0, by omega, by rw [e, r0]⟩
    · exact ⟨k, by omega, e⟩
  obtain ⟨k, hk, e⟩ := hmx
  have := mn_ge s n (rise s n k - 1) (s.size + 1 - n) 0 (hgt s n) (by have := fits_rise hd h n k 0 hk (by omega); omega) (fun j _ hj => by have := fits_rise hd h n k j hk (by omega); omega)
  rw [e]
  omega
/-- The program's shift: the greatest of what the heights ask. -/
theorem ilf_l2 (s : ByteArray) (hs : s.size ≤ 120) (den a : Int) (hd : 1 ≤ den ∧ den ≤ 1000) (ha : 0 ≤ a ∧ a ≤ den) (lo ld hi hd' : Int) {R : Int × Int × Int × Bool}
    (hend : Ev (fun k => (impl_LineWord.f k a den (LOW s den a) (s.size : Int)).bind fun bt183 => (if bt183.2 = true then (if bt183.1.toList = s.toList then (some (a, den, LOW s den a, true)) else (impl_LineFor.l1 k s (HT s) den (den + 1) (wrap64 (a + 1)) lo ld hi hd')) else (impl_LineFor.l1 k s (HT s) den (den + 1) (wrap64 (a + 1)) lo ld hi hd'))) R) : ∀ (e i : Nat) (x : Int), e + i = s.size + 1 → lowF s den a e i x = LOW s den a → -1000000 ≤ x → x ≤ 1000000 → Ev (fun k => impl_LineFor.l2 k s (HT s) den a x (den + 1) a (HT s) ((s.size + 1 : Nat) : Int) i lo ld hi hd') R := by
  intro e
  induction e with
  | zero =>
    intro i x he hx x0 x1
    have : x = LOW s den a := hx
    subst this
    apply Ev.succ
    simp only [impl_LineFor.l2, if_neg (show ¬ (i : Int) < ((s.size + 1 : Nat) : Int) by omega)]
    exact hend
  | succ e ih =>
    intro i x he hx x0 x1
    have hg := hgt_range s i
    have p1 := prod_lf (h := hgt s i) (den := den) (by omega) hd
    have p3 := prod_ia (i := (i : Int)) (a := a) (by omega) (by omega)
    have hmx : mx x (sl s den a i) = max x (sl s den a i) := by unfold mx; omega
    have := ih (i + 1) (max x (sl s den a i)) (by omega) hx (by omega) (by unfold sl; omega)
    rw [← hmx] at this
    apply Ev.succ
    simp only [impl_LineFor.l2, if_pos (show (i : Int) < ((s.size + 1 : Nat) : Int) by omega), if_pos (show 0 ≤ (i : Int) by omega), ht_length, ht_get s (show i ≤ s.size by omega), w64 (show (-9223372036854775808) ≤ hgt s i * den by omega) (by omega), w64 (show (-9223372036854775808) ≤ (i : Int) * a by omega) (by omega), w64 (show (-9223372036854775808) ≤ hgt s i * den - (i : Int) * a by omega) (by omega), w64 (show (-9223372036854775808) ≤ (i : Int) + 1 by omega) (by omega)]
    exact this
theorem low_range (s : ByteArray) (hs : s.size ≤ 120) (den a : Int) (hd : 1 ≤ den ∧ den ≤ 1000) (ha : 0 ≤ a ∧ a ≤ den) : 0 ≤ LOW s den a ∧ LOW s den a ≤ 1000000 := by
  refine ⟨(lowF_ge s den a (s.size + 1) 0 0).1, lowF_le s den a 1000000 (s.size + 1) 0 0 (by omega) (fun j _ hj => ?_)⟩
  have hg := hgt_range s j
  have p1 := prod_lf (h := hgt s j) (den := den) (by omega) hd
  have p3 := prod_ia (i := (j : Int)) (a := a) (by omega) (by omega)
  unfold sl; omega
theorem ilf_at (s : ByteArray) (hw : WORD s = true) (den a : Int) (hd : 1 ≤ den ∧ den ≤ 1000) (ha : 0 ≤ a ∧ a ≤ den) {lo ld hi hd' : Int} (m : ENDS s (-2) (-3) (fun _ _ => True) lo ld hi hd') {R : Int × Int × Int × Bool} (hn : Ev (fun k => impl_LineFor.l1 k s (HT s) den (den + 1) (a + 1) lo ld hi hd') R) : Ev (fun k => impl_LineFor.l1 k s (HT s) den (den + 1) a lo ld hi hd') (if LOW s den a ≤ HIGH s den a then (a, den, LOW s den a, true) else R) := by
  obtain ⟨hs, hlet⟩ := word_facts hw
  have hb := ends_bnd m
  have lr := low_range s hs den a hd ha
  have q1 := prod_ia (i := ld) (a := a) (by omega) (by omega)
  have q2 := prod_ia (i := hd') (a := a) (by omega) (by omega)
  have c1 : -1000000 ≤ lo * den ∧ lo * den ≤ 1000000 := by
    have h1 := Int.mul_le_mul_of_nonneg_right hb.1.1 (show 0 ≤ den by omega)
    have h2 := Int.mul_le_mul_of_nonneg_right hb.1.2 (show 0 ≤ den by omega)
    omega
  have c2 : -1000000 ≤ hi * den ∧ hi * den ≤ 1000000 := by
    have h1 := Int.mul_le_mul_of_nonneg_right hb.2.2.1.1 (show 0 ≤ den by omega)
    have h2 := Int.mul_le_mul_of_nonneg_right hb.2.2.1.2 (show 0 ≤ den by omega)
    omega
  have e1 : a * ld = ld * a := Int.mul_comm _ _
  have e2 : a * hd' = hd' * a := Int.mul_comm _ _
  have a1 := against_ev (a := a) (n := den) (b := lo) (m := ld) (by omega) (by omega) (by omega) (by omega)
  have a2 := against_ev (a := a) (n := den) (b := hi) (m := hd') (by omega) (by omega) (by omega) (by omega)
  have skip : ¬ LOW s den a ≤ HIGH s den a → Ev (fun k => impl_LineFor.j2 k s (HT s) den a (den + 1) a true lo ld hi hd') (if LOW s den a ≤ HIGH s den a then (a, den, LOW s den a, true) else R) := by
    intro hc
    rw [if_neg hc]
    apply Ev.succ
    simp only [impl_LineFor.j2, if_true, w64 (show (-9223372036854775808) ≤ a + 1 by omega) (by omega)]
    exact hn
  apply Ev.succ
  simp only [impl_LineFor.l1, if_pos (show a < den + 1 by omega)]
  refine Ev.bind a1 ?_
  by_cases h1 : a * ld ≤ lo * den
  · simp only [if_pos ((cmp_nonpos _ _).2 h1)]
    exact skip (fun hc => by have := (fits_between hs hd.1 ha (fits_low hc) m).1; omega)
  · simp only [if_neg (fun h => h1 ((cmp_nonpos _ _).1 h))]
    refine Ev.bind a2 ?_
    by_cases h2 : a * hd' ≥ hi * den
    · simp only [decide_eq_true ((cmp_nonneg _ _).2 h2)]
      exact skip (fun hc => by have := (fits_between hs hd.1 ha (fits_low hc) m).2; omega)
    · simp only [decide_eq_false (fun h => h2 ((cmp_nonneg _ _).1 h))]
      apply Ev.succ
      simp only [impl_LineFor.j2, Bool.false_eq_true, if_false, ht_length]
      refine ilf_l2 s hs den a hd ha lo ld hi hd' ?_ (s.size + 1) 0 0 (by omega) rfl (by omega) (by omega)
      refine Ev.bind (iLW_ev a den (LOW s den a) (s.size : Int)) ?_
      have hn' : Ev (fun k => impl_LineFor.l1 k s (HT s) den (den + 1) (wrap64 (a + 1)) lo ld hi hd') R := by
        rw [w64 (show (-9223372036854775808) ≤ a + 1 by omega) (by omega)]
        exact hn
      unfold LW
      by_cases c : LOW s den a ≤ den - 1
      · rw [if_pos ⟨hd, ha, ⟨lr.1, c⟩, by omega⟩]
        simp only [if_true, Int.toNat_natCast]
        have lw := line_word (s := s) (den := den) (a := a) (x := LOW s den a) hlet (by omega) ha lr.1 c
        have sw := str_word (s := s) (den := den) (a := a) (x := LOW s den a) hlet
        by_cases hc : LOW s den a ≤ HIGH s den a
        · have hf := fits_low hc
          have := sw.2 (lw.2 (fun i hi => fits_floor (by omega) hf i hi))
          simp only [if_pos this, if_pos hc]
          exact Ev.now _
        · have : ¬ (strOfNums (LINE a den (LOW s den a) s.size)).toList = s.toList := fun h => hc (low_fits (floor_fits (by omega) lr.1 c (lw.1 (sw.1 h))))
          simp only [if_neg this, if_neg hc]
          exact hn'
      · rw [if_neg (fun h => c h.2.2.1.2)]
        have hc : ¬ LOW s den a ≤ HIGH s den a := fun hc => c (fits_low hc).2.1
        simp only [Bool.false_eq_true, if_false, if_neg hc]
        exact hn'
/-- Both searches, side by side. -/
theorem lf_l1 (s : ByteArray) (hw : WORD s = true) (den : Int) (hd : 1 ≤ den ∧ den ≤ 1000) {lo ld hi hd' : Int} (m : ENDS s (-2) (-3) (fun _ _ => True) lo ld hi hd') {R : Int × Int × Int × Bool} (h1 : Ev (fun k => spec_LineFor.l0 k (HT s) (den + 1)) R) (h2 : Ev (fun k => impl_LineFor.l0 k s (HT s) (den + 1) lo ld hi hd') R) : ∀ (e : Nat) (a : Int), 0 ≤ a → (e : Int) + a = den + 1 → ∃ r, Ev (fun k => spec_LineFor.l1 k (HT s) den a) r ∧ Ev (fun k => impl_LineFor.l1 k s (HT s) den (den + 1) a lo ld hi hd') r := by
  intro e
  induction e with
  | zero =>
    intro a ha he
    refine ⟨R, ?_, ?_⟩
    · apply Ev.succ
      simp only [spec_LineFor.l1, if_neg (show ¬ a ≤ den by omega), w64 (show (-9223372036854775808) ≤ den + 1 by omega) (by omega)]
      exact h1
    · apply Ev.succ
      simp only [impl_LineFor.l1, if_neg (show ¬ a < den + 1 by omega), w64 (show (-9223372036854775808) ≤ den + 1 by omega) (by omega)]
      exact h2
  | succ e ih =>
    intro a ha he
    obtain ⟨r, r1, r2⟩ := ih (a + 1) (by omega) (by omega)
    exact ⟨_, slf_at s (word_facts hw).1 den a hd (by omega) r1, ilf_at s hw den a hd (by omega) m r2⟩
theorem lf_l0 (s : ByteArray) (hw : WORD s = true) {lo ld hi hd' : Int} (m : ENDS s (-2) (-3) (fun _ _ => True) lo ld hi hd') : ∀ (e : Nat) (den : Int), 1 ≤ den → (e : Int) + den = 1001 → ∃ r, Ev (fun k => spec_LineFor.l0 k (HT s) den) r ∧ Ev (fun k => impl_LineFor.l0 k s (HT s) den lo ld hi hd') r := by
  intro e
  induction e with
  | zero =>
    intro den h he
    refine ⟨(0, 0, 0, false), ?_, ?_⟩
    · apply Ev.succ
      simp only [spec_LineFor.l0, if_neg (show ¬ den ≤ 1000 by omega)]
      exact Ev.now _
    · apply Ev.succ
      simp only [impl_LineFor.l0, if_neg (show ¬ den ≤ 1000 by omega)]
      exact Ev.now _
  | succ e ih =>
    intro den h he
    obtain ⟨R, r1, r2⟩ := ih (den + 1) (by omega) (by omega)
    obtain ⟨r, q1, q2⟩ := lf_l1 s hw den (by omega) m r1 r2 (den + 1).toNat 0 (by omega) (by omega)
    refine ⟨r, ?_, ?_⟩
    · apply Ev.succ
      simp only [spec_LineFor.l0, if_pos (show den ≤ 1000 by omega)]
      exact q1
    · apply Ev.succ
      simp only [impl_LineFor.l0, if_pos (show den ≤ 1000 by omega), w64 (show (-9223372036854775808) ≤ den + 1 by omega) (by omega)]
      exact q2
/-- Where the word isn't balanced, no line makes it. -/
theorem slf_none (s : ByteArray) (hw : WORD s = true) (hb : BAL s = false) : ∀ (e : Nat) (den : Int), 1 ≤ den → (e : Int) + den = 1001 → Ev (fun k => spec_LineFor.l0 k (HT s) den) (0, 0, 0, false) := by
  have hs := (word_facts hw).1
  intro e
  induction e with
  | zero =>
    intro den h he
    apply Ev.succ
    simp only [spec_LineFor.l0, if_neg (show ¬ den ≤ 1000 by omega)]
    exact Ev.now _
  | succ e ih =>
    intro den h he
    have key : ∀ (f : Nat) (a : Int), 0 ≤ a → (f : Int) + a = den + 1 → Ev (fun k => spec_LineFor.l1 k (HT s) den a) (0, 0, 0, false) := by
      intro f
      induction f with
      | zero =>
        intro a ha hf
        apply Ev.succ
        simp only [spec_LineFor.l1, if_neg (show ¬ a ≤ den by omega), w64 (show (-9223372036854775808) ≤ den + 1 by omega) (by omega)]
        exact ih (den + 1) (by omega) (by omega)
      | succ f ihf =>
        intro a ha hf
        have := slf_at s hs den a (by omega) (by omega) (ihf (a + 1) (by omega) (by omega))
        rwa [if_neg (fun hc => by have := fits_bal (by omega) (fits_low hc); rw [hb] at this; cases this)] at this
    apply Ev.succ
    simp only [spec_LineFor.l0, if_pos (show den ≤ 1000 by omega)]
    exact key (den + 1).toNat 0 (by omega) (by omega)
theorem FnExactLineFor : laws_FnExactLineFor.Pure := by
  intro s hs
  apply Ev.rounds
  unfold laws_FnExactLineFor.f
  by_cases h : (s.size : Int) > 1048576
  · simp only [if_pos h]
    exact Ev.now _
  · simp only [if_neg h]
    have key : ∃ r : Int × Int × Int × Bool, Ev (fun k => spec_LineFor.f k s) r ∧ Ev (fun k => impl_LineFor.f k s) r := by
      cases hw : WORD s with
      | false =>
        refine ⟨(0, 0, 0, false), ?_, ?_⟩
        · unfold spec_LineFor.f
          refine Ev.bind (sWORD_ev s (by omega)) ?_
          simp only [hw, Bool.false_eq_true, if_false]
          exact Ev.now _
        · unfold impl_LineFor.f
          refine Ev.bind (iWBAL_ev s) ?_
          simp only [WBAL, hw, Bool.false_and, Bool.false_eq_true, if_false]
          exact Ev.now _
      | true =>
        have h1 := (word_facts hw).1
        cases hb : BAL s with
        | false =>
          refine ⟨(0, 0, 0, false), ?_, ?_⟩
          · unfold spec_LineFor.f
            refine Ev.bind (sWORD_ev s (by omega)) ?_
            simp only [hw, if_true]
            exact Ev.bind (sHT_ev s hw) (slf_none s hw hb 1000 1 (by omega) (by omega))
          · unfold impl_LineFor.f
            refine Ev.bind (iWBAL_ev s) ?_
            simp only [WBAL, hw, hb, Bool.and_false, Bool.false_eq_true, if_false]
            exact Ev.now _
        | true =>
          obtain ⟨⟨lo, ld, hi, hd'⟩, e2, m⟩ := islopes_ev s h1
          obtain ⟨r, r1, r2⟩ := lf_l0 s hw m 1000 1 (by omega) (by omega)
          refine ⟨r, ?_, ?_⟩
          · unfold spec_LineFor.f
            refine Ev.bind (sWORD_ev s (by omega)) ?_
            simp only [hw, if_true]
            exact Ev.bind (sHT_ev s hw) r1
          · unfold impl_LineFor.f
            refine Ev.bind (iWBAL_ev s) ?_
            simp only [WBAL, hw, hb, Bool.and_true, if_true]
            exact Ev.bind e2 (Ev.bind (iHT_ev s h1) r2)
    obtain ⟨r, h1, h2⟩ := key
    refine Ev.bind h1 (Ev.bind h2 ?_)
    simp only [if_true, bne_self_eq_false, Bool.false_eq_true, if_false]
    exact Ev.now _


end Go.Proofs.YtkmghekffehimaaDoor.Pure
