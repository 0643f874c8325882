/- Proved: the pure half of the law FnExactCutOf: the printed functions answer true, for every input. No condition. -/
import Derived.Test.YtkmghekffehimaaPFnExactCutOfx3
import Derived.Test.YtkmghekffehimaaBase
import Derived.Test.YtkmghekffehimaaGcd
import Derived.Test.YtkmghekffehimaaLine
import Derived.Test.YtkmghekffehimaaLists
import Derived.Test.YtkmghekffehimaaWords
import Derived.Test.YtkmghekffehimaaBalance
import Derived.Test.YtkmghekffehimaaSlopes
import Derived.Test.YtkmghekffehimaaLineFor
namespace Go.Proofs.Ytkmghekffehimaa.Pure
open Go.RowKit Go.Proofs.Ytkmghekffehimaa.PFnExactCutOf Go.Proofs.YtkmghekffehimaaW.PrintWords Go.Proofs.YtkmghekffehimaaW.PrintLast Go.Proofs.YtkmghekffehimaaW.PrintMore Go.Proofs.Ytkmghekffehimaa.Base
set_option linter.unusedVariables false
set_option linter.unusedSimpArgs false

/-! spec.l00In -/
theorem in_eq (a b c : Int) : spec_l00In.f a b c = some (decide (b ≤ a ∧ a ≤ c)) := by
  unfold spec_l00In.f
  by_cases h : b ≤ a
  · rw [if_pos (show a ≥ b from h)]; simp [h]
  · rw [if_neg (show ¬ a ≥ b from h)]; simp [h]

/-! spec.l07Gcd -/
theorem gcd_l0 : ∀ (n : Nat) (a b : Int), b.natAbs ≤ n → 0 ≤ a → 0 ≤ b → Ev (fun k => spec_l07Gcd.l0 k a b) (Int.gcd a b : Int) := by
  intro n
  induction n with
  | zero =>
    intro a b hn ha hb
    have e : b = 0 := by omega
    subst e
    apply Ev.succ
    simp only [spec_l07Gcd.l0, if_neg (show ¬ (0 : Int) > 0 by omega)]
    refine (Ev.now _).to ?_
    rw [Int.gcd_zero_right]
    omega
  | succ n ih =>
    intro a b hn ha hb
    by_cases hz : b = 0
    · subst hz
      apply Ev.succ
      simp only [spec_l07Gcd.l0, if_neg (show ¬ (0 : Int) > 0 by omega)]
      refine (Ev.now _).to ?_
      rw [Int.gcd_zero_right]
      omega
    · apply Ev.succ
      simp only [spec_l07Gcd.l0, if_pos (show b > 0 by omega), if_neg hz]
      have := tmod_abs_lt (a := a) hz
      exact (ih b (a.tmod b) (by omega) hb (Int.tmod_nonneg _ ha)).to (by rw [gcd_step])
theorem l07Gcd_ev (a b : Int) (ha : 0 ≤ a) (hb : 0 ≤ b) : Ev (fun k => spec_l07Gcd.f k a b) (Int.gcd a b : Int) := gcd_l0 b.natAbs a b (Nat.le_refl _) ha hb

/-! spec.l07Pair -/
theorem l07Pair_ev (a b : Int) : Ev (fun k => spec_l07Pair.f k a b) (decide ((0 ≤ a ∧ a ≤ 60) ∧ (0 ≤ b ∧ b ≤ 60) ∧ Int.gcd a b = 1)) := by
  unfold spec_l07Pair.f
  simp only [in_eq, Option.bind_some]
  by_cases h1 : 0 ≤ a ∧ a ≤ 60
  · by_cases h2 : 0 ≤ b ∧ b ≤ 60
    · simp only [decide_eq_true h1, decide_eq_true h2, if_true]
      refine (Ev.bind (l07Gcd_ev a b h1.1 h2.1) (Ev.now ((Int.gcd a b : Int) == 1))).to ?_
      by_cases h3 : Int.gcd a b = 1
      · rw [decide_eq_true ⟨h1, h2, h3⟩, h3]; rfl
      · rw [decide_eq_false (fun h => h3 h.2.2)]
        simp only [beq_eq_false_iff_ne, ne_eq]
        omega
    · simp only [decide_eq_true h1, decide_eq_false h2, if_true, Bool.false_eq_true, if_false]
      refine (Ev.now _).to ?_
      rw [decide_eq_false (fun h => h2 h.2.1)]
  · simp only [decide_eq_false h1, Bool.false_eq_true, if_false]
    refine (Ev.now _).to ?_
    rw [decide_eq_false (fun h => h1 h.1)]

/-! spec.l01Floor -/
theorem tdiv_mul_range {a b m : Int} (hb : 0 < b) (h1 : -m ≤ a) (h2 : a ≤ m) : -m ≤ a.tdiv b * b ∧ a.tdiv b * b ≤ m := by
  have h := ediv_bounds (a := a) hb
  rcases tdiv_cases (a := a) hb with ⟨e, _, h3⟩ | ⟨e, _, h3, h4⟩
  · rw [e]
    rcases h3 with h3 | h3
    · have : 0 ≤ a / b * b := Int.mul_nonneg (Int.ediv_nonneg h3 (by omega)) (by omega)
      omega
    · have := Int.emod_add_mul_ediv a b
      have h5 : b * (a / b) = (a / b) * b := Int.mul_comm _ _
      omega
  · have h5 : (a / b + 1) * b = a / b * b + b := by rw [Int.add_mul, Int.one_mul]
    have h6 : a / b < 0 := Int.ediv_neg_of_neg_of_pos h3 hb
    have h7 : (a / b + 1) * b ≤ 0 * b := Int.mul_le_mul_of_nonneg_right (by omega) (by omega)
    rw [e]
    omega
theorem sfloor_eq {a b : Int} (hb : 0 < b) (h1 : -9223372036854775807 ≤ a) (h2 : a ≤ 9223372036854775807) : spec_l01Floor.f a b = some (a / b) := by
  have r1 := tdiv_range hb h1 h2 (by omega)
  have r2 := tdiv_mul_range hb h1 h2
  have hf := floorA (a := a) hb
  have e1 : wrap64 (a.tdiv b) = a.tdiv b := w64 (by omega) (by omega)
  have e2 : wrap64 (a.tdiv b * b) = a.tdiv b * b := w64 (by omega) (by omega)
  unfold spec_l01Floor.f
  rw [if_neg (by omega), e1, e2]
  by_cases h : a.tdiv b * b > a
  · rw [if_pos h] at hf
    rw [if_pos h, w64 (by omega) (by omega), hf]
  · rw [if_neg h] at hf
    rw [if_neg h, hf]

/-! spec.l07Line -/
theorem sline_l0 (a den shift : Int) (n : Nat) (ha : 0 ≤ a ∧ a ≤ den) (hd : 1 ≤ den ∧ den ≤ 1000) (hs : 0 ≤ shift ∧ shift ≤ den - 1) (hn : n ≤ 999999) : ∀ (d i : Nat), d + i = n → Ev (fun k => spec_l07Line.l0 k a den shift (n : Int) (LINE a den shift i) i) (strOfNums (LINE a den shift n)) := by
  intro d
  induction d with
  | zero =>
    intro i hi
    apply Ev.succ
    simp only [spec_l07Line.l0, if_neg (show ¬ (i : Int) < (n : Int) by omega)]
    rw [show i = n by omega]
    exact Ev.now _
  | succ d ih =>
    intro i hi
    have p0 := line_small (i := i) ha hd (by omega)
    have p1 := line_small (i := i + 1) ha hd (by omega)
    rw [Int.natCast_succ] at p1
    apply Ev.succ
    simp only [spec_l07Line.l0, if_pos (show (i : Int) < (n : Int) by omega), w64 (show (-9223372036854775808) ≤ (i : Int) + 1 by omega) (by omega), w64 (show (-9223372036854775808) ≤ ((i : Int) + 1) * a by omega) (by omega), w64 (show (-9223372036854775808) ≤ (i : Int) * a by omega) (by omega), w64 (show (-9223372036854775808) ≤ ((i : Int) + 1) * a + shift by omega) (by omega), w64 (show (-9223372036854775808) ≤ (i : Int) * a + shift by omega) (by omega)]
    simp only [sfloor_eq (show 0 < den by omega) (show -9223372036854775807 ≤ ((i : Int) + 1) * a + shift by omega) (by omega), sfloor_eq (show 0 < den by omega) (show -9223372036854775807 ≤ (i : Int) * a + shift by omega) (by omega), Option.bind_some, LINE_length, if_pos (show i < 140737488355328 by omega)]
    have ih1 := ih (i + 1) (by omega)
    rw [LINE_succ] at ih1
    by_cases h : (((i : Int) + 1) * a + shift) / den > ((i : Int) * a + shift) / den
    · simp only [if_pos h]
      have e : lineAt a den shift i = 98 := by unfold lineAt; rw [if_pos h]
      rw [e] at ih1
      exact ih1
    · simp only [if_neg h]
      have e : lineAt a den shift i = 97 := by unfold lineAt; rw [if_neg h]
      rw [e] at ih1
      exact ih1
theorem l07Line_ev (a den shift : Int) (n : Nat) (ha : 0 ≤ a ∧ a ≤ den) (hd : 1 ≤ den ∧ den ≤ 1000) (hs : 0 ≤ shift ∧ shift ≤ den - 1) (hn : n ≤ 999999) : Ev (fun k => spec_l07Line.f k a den shift (n : Int)) (strOfNums (LINE a den shift n)) := by
  unfold spec_l07Line.f
  simpa [LINE] using sline_l0 a den shift n ha hd hs hn n 0 (by omega)

/-! spec.l07Heights -/
theorem sHT_l0 (s : ByteArray) (hw : WORD s = true) : ∀ (d i : Nat), d + i = s.size → Ev (fun k => spec_l07Heights.l0 k s ((List.range (i + 1)).map (hgt s)) i) (HT s) := by
  obtain ⟨h1, h2⟩ := word_facts hw
  intro d
  induction d with
  | zero =>
    intro i hd
    apply Ev.succ
    simp only [spec_l07Heights.l0, if_neg (show ¬ (i : Int) < s.size by omega)]
    rw [show i = s.size by omega]
    exact Ev.now _
  | succ d ih =>
    intro i hd
    have hi : i < s.size := by omega
    have hr := hgt_range s i
    have e : wrap64 (hgt s i + (bt s (i : Int) - 97) % 256) = hgt s (i + 1) := by
      rw [show hgt s (i + 1) = hgt s i + (if bt s (i : Int) = 98 then 1 else 0) from rfl]
      rcases h2 i hi with e | e
      · rw [e, if_neg (by omega), w64 (by omega) (by omega)]; omega
      · rw [e, if_pos rfl, w64 (by omega) (by omega)]; omega
    have := ih (i + 1) (by omega)
    rw [List.range_succ, List.map_append] at this
    apply Ev.succ
    simp only [spec_l07Heights.l0, if_pos (show (i : Int) < s.size by omega), if_pos (show 0 ≤ (i : Int) by omega), List.length_map, List.length_range, if_pos (show (i : Int) < ((i + 1 : Nat) : Int) by omega), if_pos (show i + 1 < 17592186044416 by omega), ht_take_get s (show i < i + 1 by omega), e, inc hi (by omega)]
    exact this
theorem sHT_ev (s : ByteArray) (hw : WORD s = true) : Ev (fun k => spec_l07Heights.f k s) (HT s) := sHT_l0 s hw s.size 0 (by omega)

/-! impl.within -/
theorem within_eq (a b c : Int) : impl_within.f a b c = some (decide (b ≤ a ∧ a ≤ c)) := by
  unfold impl_within.f
  by_cases h : b ≤ a
  · rw [if_pos h]; simp [h]
  · rw [if_neg h]; simp [h]

/-! impl.divisor -/
theorem div_l0 : ∀ (n : Nat) (a b : Int), b.natAbs ≤ n → a.natAbs ≤ 9223372036854775807 → b.natAbs ≤ 9223372036854775807 → Ev (fun k => impl_divisor.l0 k a b) (Int.gcd a b : Int) := by
  intro n
  induction n with
  | zero =>
    intro a b hn ha hb
    have e : b = 0 := by omega
    subst e
    apply Ev.succ
    simp only [impl_divisor.l0, if_true]
    refine (Ev.now _).to ?_
    rw [w64 (by omega) (by omega), Int.gcd_zero_right]
    unfold mx
    split <;> omega
  | succ n ih =>
    intro a b hn ha hb
    by_cases hz : b = 0
    · subst hz
      apply Ev.succ
      simp only [impl_divisor.l0, if_true]
      refine (Ev.now _).to ?_
      rw [w64 (by omega) (by omega), Int.gcd_zero_right]
      unfold mx
      split <;> omega
    · apply Ev.succ
      simp only [impl_divisor.l0, if_neg hz]
      have := tmod_abs_lt (a := a) hz
      exact (ih b (a.tmod b) (by omega) hb (by omega)).to (by rw [gcd_step])
theorem divisor_ev (a b : Int) (ha : a.natAbs ≤ 9223372036854775807) (hb : b.natAbs ≤ 9223372036854775807) : Ev (fun k => impl_divisor.f k a b) (Int.gcd a b : Int) := div_l0 b.natAbs a b (Nat.le_refl _) ha hb

/-! impl.floor -/
theorem ifloor_eq {a b : Int} (hb : 0 < b) (h1 : -9223372036854775807 ≤ a) (h2 : a ≤ 9223372036854775807) : impl_floor.f a b = some (a / b) := by
  have r1 := tdiv_range hb h1 h2 (by omega)
  have hf := floorB (a := a) hb
  have e1 : wrap64 (a.tdiv b) = a.tdiv b := w64 (by omega) (by omega)
  unfold impl_floor.f
  rw [if_neg (by omega), e1]
  by_cases h : a.tmod b < 0
  · rw [if_pos h] at hf
    rw [if_pos h, w64 (by omega) (by omega), hf]
  · rw [if_neg h] at hf
    rw [if_neg h, hf]

/-! impl.steps -/
theorem iline_l0 (a den shift : Int) (n : Nat) (ha : 0 ≤ a ∧ a ≤ den) (hd : 1 ≤ den ∧ den ≤ 1000) (hs : 0 ≤ shift ∧ shift ≤ den - 1) (hn : n ≤ 999999) : ∀ (d i : Nat), d + i = n → Ev (fun k => impl_steps.l0 k a den shift 98 97 (LINE a den shift i) (n : Int) i) (strOfNums (LINE a den shift n)) := by
  intro d
  induction d with
  | zero =>
    intro i hi
    apply Ev.succ
    simp only [impl_steps.l0, if_neg (show ¬ (i : Int) < (n : Int) by omega)]
    rw [show i = n by omega]
    exact Ev.now _
  | succ d ih =>
    intro i hi
    have p0 := line_small (i := i) ha hd (by omega)
    have p1 := line_small (i := i + 1) ha hd (by omega)
    rw [Int.natCast_succ] at p1
    apply Ev.succ
    simp only [impl_steps.l0, if_pos (show (i : Int) < (n : Int) by omega), w64 (show (-9223372036854775808) ≤ (i : Int) + 1 by omega) (by omega), w64 (show (-9223372036854775808) ≤ ((i : Int) + 1) * a by omega) (by omega), w64 (show (-9223372036854775808) ≤ (i : Int) * a by omega) (by omega), w64 (show (-9223372036854775808) ≤ ((i : Int) + 1) * a + shift by omega) (by omega), w64 (show (-9223372036854775808) ≤ (i : Int) * a + shift by omega) (by omega)]
    simp only [ifloor_eq (show 0 < den by omega) (show -9223372036854775807 ≤ ((i : Int) + 1) * a + shift by omega) (by omega), ifloor_eq (show 0 < den by omega) (show -9223372036854775807 ≤ (i : Int) * a + shift by omega) (by omega), Option.bind_some, LINE_length, if_pos (show i < 140737488355328 by omega)]
    have ih1 := ih (i + 1) (by omega)
    rw [LINE_succ] at ih1
    by_cases h : (((i : Int) + 1) * a + shift) / den > ((i : Int) * a + shift) / den
    · simp only [if_pos h]
      have e : lineAt a den shift i = 98 := by unfold lineAt; rw [if_pos h]
      rw [e] at ih1
      exact ih1
    · simp only [if_neg h]
      have e : lineAt a den shift i = 97 := by unfold lineAt; rw [if_neg h]
      rw [e] at ih1
      exact ih1
theorem steps_ev (a den shift : Int) (n : Nat) (ha : 0 ≤ a ∧ a ≤ den) (hd : 1 ≤ den ∧ den ≤ 1000) (hs : 0 ≤ shift ∧ shift ≤ den - 1) (hn : n ≤ 999999) : Ev (fun k => impl_steps.f k a den shift (n : Int) 98 97) (strOfNums (LINE a den shift n)) := by
  unfold impl_steps.f
  simpa [LINE] using iline_l0 a den shift n ha hd hs hn n 0 (by omega)

/-! impl.christoffel -/
theorem christoffel_ev (a b : Int) (ha : 0 ≤ a ∧ a ≤ 60) (hb : 0 ≤ b ∧ b ≤ 60) (hp : 1 ≤ a + b) : Ev (fun k => impl_christoffel.f k a b) (strOfNums (LINE b (a + b) 0 (a + b).toNat)) := by
  unfold impl_christoffel.f
  rw [w64 (show (-9223372036854775808) ≤ a + b by omega) (by omega)]
  have := steps_ev b (a + b) 0 (a + b).toNat (by omega) (by omega) (by omega) (by omega)
  rw [Int.toNat_of_nonneg (by omega)] at this
  exact Ev.bind this (Ev.now _)

/-! impl.ChristoffelWord -/
def CWi (a b : Int) : ByteArray × Bool := if (0 ≤ a ∧ a ≤ 60) ∧ (0 ≤ b ∧ b ≤ 60) ∧ Int.gcd a b = 1 then (strOfNums (LINE b (a + b) 0 (a + b).toNat), true) else ((⟨#[]⟩ : ByteArray), false)
theorem igcd1_pos {a b : Int} (ha : 0 ≤ a) (hb : 0 ≤ b) (h : Int.gcd a b = 1) : 1 ≤ a + b := by
  rcases Int.lt_or_eq_of_le ha with h1 | h1
  · omega
  · rcases Int.lt_or_eq_of_le hb with h2 | h2
    · omega
    · subst h1; subst h2; simp at h
theorem iCW_ev (a b : Int) : Ev (fun k => impl_ChristoffelWord.f k a b) (CWi a b) := by
  unfold impl_ChristoffelWord.f CWi
  simp only [within_eq, Option.bind_some]
  by_cases h1 : 0 ≤ a ∧ a ≤ 60
  · by_cases h2 : 0 ≤ b ∧ b ≤ 60
    · simp only [decide_eq_true h1, decide_eq_true h2, if_true]
      refine Ev.bind (divisor_ev a b (by omega) (by omega)) ?_
      by_cases h3 : Int.gcd a b = 1
      · simp only [if_pos (show (Int.gcd a b : Int) = 1 by omega), if_pos (show (0 ≤ a ∧ a ≤ 60) ∧ (0 ≤ b ∧ b ≤ 60) ∧ Int.gcd a b = 1 from ⟨h1, h2, h3⟩)]
        exact Ev.bind (christoffel_ev a b h1 h2 (igcd1_pos h1.1 h2.1 h3)) (Ev.now _)
      · simp only [if_neg (show ¬ (Int.gcd a b : Int) = 1 by omega), if_neg (show ¬ ((0 ≤ a ∧ a ≤ 60) ∧ (0 ≤ b ∧ b ≤ 60) ∧ Int.gcd a b = 1) from fun h => h3 h.2.2)]
        exact Ev.now _
    · simp only [decide_eq_true h1, decide_eq_false h2, if_true, Bool.false_eq_true, if_false, if_neg (show ¬ ((0 ≤ a ∧ a ≤ 60) ∧ (0 ≤ b ∧ b ≤ 60) ∧ Int.gcd a b = 1) from fun h => h2 h.2.1)]
      exact Ev.now _
  · simp only [decide_eq_false h1, Bool.false_eq_true, if_false, if_neg (show ¬ ((0 ≤ a ∧ a ≤ 60) ∧ (0 ≤ b ∧ b ≤ 60) ∧ Int.gcd a b = 1) from fun h => h1 h.1)]
    exact Ev.now _

/-! the law -/
theorem line_facts (a den shift : Int) (n : Nat) (hd : 1 ≤ den) (ha : 0 ≤ a ∧ a ≤ den) (hs : 0 ≤ shift ∧ shift ≤ den - 1) (hn : n ≤ 120) : (strOfNums (LINE a den shift n)).size = n ∧ WORD (strOfNums (LINE a den shift n)) = true ∧ FITS (strOfNums (LINE a den shift n)) den a shift := by
  have hsz : (strOfNums (LINE a den shift n)).size = n := by rw [strOf_inj_len, LINE_length]
  have hl : ∀ i, lineAt a den shift i = 97 ∨ lineAt a den shift i = 98 := fun i => by unfold lineAt; split <;> simp
  have hx : (strOfNums (LINE a den shift n)).data.toList = (LINE a den shift n).map fun n => UInt8.ofNat n.toNat := by simp [strOfNums]
  have hb : ∀ i, i < (strOfNums (LINE a den shift n)).size → lineAt a den shift i = bt (strOfNums (LINE a den shift n)) (i : Int) := by
    intro i hi
    rw [bt_nat _ hi]
    have h1 : (strOfNums (LINE a den shift n)).data.toList[i]'(by simpa using hi) = ((LINE a den shift n).map fun n => UInt8.ofNat n.toNat)[i]'(by rw [List.length_map, LINE_length]; omega) := by simp only [hx]
    rw [h1, List.getElem_map]
    have h3 : (LINE a den shift n)[i]'(by rw [LINE_length]; omega) = lineAt a den shift i := by simp [LINE]
    rw [h3, UInt8.toNat_ofNat']
    rcases hl i with e | e <;> rw [e] <;> rfl
  have hw : ∀ i, i < (strOfNums (LINE a den shift n)).size → bt (strOfNums (LINE a den shift n)) (i : Int) = 97 ∨ bt (strOfNums (LINE a den shift n)) (i : Int) = 98 := fun i hi => by rw [← hb i hi]; exact hl i
  refine ⟨hsz, ?_, floor_fits (by omega) hs.1 hs.2 ((line_word hw (by omega) ha hs.1 hs.2).1 hb)⟩
  simp only [WORD, LET, Bool.and_eq_true, List.all_eq_true, List.mem_range, decide_eq_true_eq]
  exact ⟨hw, by omega⟩
theorem cnt_hgt (s : ByteArray) : ∀ i, i ≤ s.size → (((s.data.toList.take i).count (98 : UInt8) : Nat) : Int) = hgt s i
  | 0, _ => by simp [hgt]
  | i + 1, h => by
    have ih := cnt_hgt s i (by omega)
    have hi : i < s.data.toList.length := by simpa using (show i < s.size by omega)
    rw [List.take_succ_eq_append_getElem hi, List.count_append, show hgt s (i + 1) = hgt s i + (if bt s (i : Int) = 98 then 1 else 0) from rfl, bt_nat s (show i < s.size by omega), Int.natCast_add, ih]
    by_cases c : s.data.toList[i] = 98
    · rw [c]; rfl
    · have h2 : ¬ ((s.data.toList[i].toNat : Int) = 98) := fun e => c (by
        apply UInt8.toNat_inj.1
        show s.data.toList[i].toNat = 98
        omega)
      rw [if_neg h2, List.count_singleton, beq_eq_false_iff_ne.2 c]
      rfl
theorem hgt_step (s : ByteArray) : ∀ d i, hgt s i ≤ hgt s (i + d) ∧ hgt s (i + d) ≤ hgt s i + d
  | 0, i => ⟨Int.le_refl _, by simp⟩
  | d + 1, i => by
    have ih := hgt_step s d i
    rw [show hgt s (i + (d + 1)) = hgt s (i + d) + (if bt s ((i + d : Nat) : Int) = 98 then 1 else 0) from rfl]
    split <;> omega
theorem beq_sym (x y : List UInt8) : (x == y) = decide (y = x) := by
  by_cases h : y = x
  · subst h; simp
  · rw [decide_eq_false h]; exact beq_eq_false_iff_ne.2 (fun e => h e.symm)
theorem ext_take (s : ByteArray) (i : Nat) : (s.extract 0 i).data.toList = s.data.toList.take i := by simp
theorem ext_drop (s : ByteArray) (i : Nat) : (s.extract i s.size).data.toList = s.data.toList.drop i := by
  have e : s.data.toList.length = s.size := by simp
  rw [ByteArray.data_extract, Array.toList_extract, List.extract_eq_take_drop]
  exact List.take_of_length_le (by rw [List.length_drop]; omega)
theorem isC_ev (s : ByteArray) (h : Int) (hc : ((s.data.toList.count (98 : UInt8) : Nat) : Int) = h) (h0 : 0 ≤ h) (h1 : h ≤ s.size) (hb : h ≤ 60) (ha : (s.size : Int) - h ≤ 60) : Ev (fun k => impl_isChristoffel.f k s) (decide (Int.gcd ((s.size : Int) - h) h = 1) && decide (s.toList = (strOfNums (LINE h s.size 0 s.size)).toList)) := by
  unfold impl_isChristoffel.f strings_Count.f
  simp only [if_true, Option.bind_some, hc, w64 (show (-9223372036854775808) ≤ (s.size : Int) - h by omega) (by omega)]
  refine Ev.bind (iCW_ev ((s.size : Int) - h) h) ?_
  unfold CWi
  by_cases c : Int.gcd ((s.size : Int) - h) h = 1
  · simp only [if_pos (show (0 ≤ (s.size : Int) - h ∧ (s.size : Int) - h ≤ 60) ∧ (0 ≤ h ∧ h ≤ 60) ∧ Int.gcd ((s.size : Int) - h) h = 1 from ⟨⟨by omega, ha⟩, ⟨h0, hb⟩, c⟩), if_true, decide_eq_true c, Bool.true_and, show (s.size : Int) - h + h = s.size by omega, Int.toNat_natCast, beq_sym]
    exact Ev.now _
  · simp only [if_neg (show ¬ ((0 ≤ (s.size : Int) - h ∧ (s.size : Int) - h ≤ 60) ∧ (0 ≤ h ∧ h ≤ 60) ∧ Int.gcd ((s.size : Int) - h) h = 1) from fun x => c x.2.2), decide_eq_false c, Bool.false_and, Bool.false_eq_true, if_false]
    exact Ev.now _
def cut1 (a b : Int) (S : ByteArray) (i : Nat) : Bool := decide (Int.gcd ((i : Int) - hgt S i) (hgt S i) = 1)
def cut2 (a b : Int) (S : ByteArray) (i : Nat) : Bool := decide (Int.gcd (a - ((i : Int) - hgt S i)) (b - hgt S i) = 1)
def cut3 (S : ByteArray) (i : Nat) : Bool := decide ((S.extract 0 i).toList = (strOfNums (LINE (hgt S i) i 0 i)).toList)
def cut4 (b : Int) (S : ByteArray) (i : Nat) : Bool := decide ((S.extract i S.size).toList = (strOfNums (LINE (b - hgt S i) ((S.size - i : Nat) : Int) 0 (S.size - i))).toList)
def cutC (a b : Int) (S : ByteArray) (i : Nat) : Bool := (cut1 a b S i && cut3 S i) && (cut2 a b S i && cut4 b S i)
theorem cut_facts {S : ByteArray} {a b : Int} (hn : (S.size : Int) = a + b) (hh : hgt S S.size = b) (i : Nat) (hi : i ≤ S.size) : 0 ≤ hgt S i ∧ hgt S i ≤ i ∧ hgt S i ≤ b ∧ (i : Int) - hgt S i ≤ a := by
  have h1 := hgt_range S i
  have h2 := hgt_step S (S.size - i) i
  rw [show i + (S.size - i) = S.size by omega, hh] at h2
  omega
theorem cut_impl {S : ByteArray} {a b : Int} (ha : 1 ≤ a ∧ a ≤ 60) (hb : 1 ≤ b ∧ b ≤ 60) (hn : (S.size : Int) = a + b) (hh : hgt S S.size = b) (i : Nat) (hi : i < S.size) {r : Int × Bool} (hr : Ev (fun k => impl_CutOf.l0 k S ((i + 1 : Nat) : Int)) r) : Ev (fun k => impl_CutOf.l0 k S i) (if cutC a b S i = true then ((i : Int), true) else r) := by
  obtain ⟨f1, f2, f3, f4⟩ := cut_facts hn hh i (by omega)
  have hcp := cnt_hgt S i (by omega)
  have hct := cnt_hgt S S.size (Nat.le_refl _)
  have hP := isC_ev (S.extract 0 i) (hgt S i) (by rw [ext_take]; exact hcp) f1 (by rw [ByteArray.size_extract]; omega) (by omega) (by rw [ByteArray.size_extract]; omega)
  have hsP : (S.extract 0 i).size = i := by rw [ByteArray.size_extract]; omega
  have hsQ : (S.extract i S.size).size = S.size - i := by rw [ByteArray.size_extract]; omega
  have hcq : (((S.extract i S.size).data.toList.count (98 : UInt8) : Nat) : Int) = b - hgt S i := by
    rw [ext_drop]
    have e : (S.data.toList.take i).count (98 : UInt8) + (S.data.toList.drop i).count (98 : UInt8) = S.data.toList.count (98 : UInt8) := by
      rw [← List.count_append, List.take_append_drop]
    rw [List.take_of_length_le (by simp)] at hct
    omega
  have hQ := isC_ev (S.extract i S.size) (b - hgt S i) hcq (by omega) (by rw [hsQ]; omega) (by omega) (by rw [hsQ]; omega)
  rw [hsP] at hP
  rw [hsQ, show ((S.size - i : Nat) : Int) - (b - hgt S i) = a - ((i : Int) - hgt S i) by omega] at hQ
  apply Ev.succ
  simp only [impl_CutOf.l0, if_pos (show (i : Int) < S.size by omega), if_pos (show 0 ≤ (i : Int) by omega), if_pos (show (i : Int) ≤ S.size by omega), Int.toNat_natCast]
  refine Ev.bind hP ?_
  change Ev (fun k => if (cut1 a b S i && cut3 S i) = true then _ else _) _
  unfold cutC
  rw [show (i : Int) + 1 = ((i + 1 : Nat) : Int) by omega, w64 (show (-9223372036854775808) ≤ ((i + 1 : Nat) : Int) by omega) (by omega)]
  cases cut1 a b S i && cut3 S i with
  | false =>
    simp only [Bool.false_eq_true, if_false, Bool.false_and]
    exact hr
  | true =>
    simp only [if_true, Bool.true_and]
    refine Ev.bind hQ ?_
    change Ev (fun k => if (cut2 a b S i && cut4 b S i) = true then _ else _) _
    cases cut2 a b S i && cut4 b S i with
    | false =>
      simp only [Bool.false_eq_true, if_false]
      exact hr
    | true =>
      simp only [if_true]
      exact Ev.now _
theorem cut_spec {S : ByteArray} {a b : Int} (ha : 1 ≤ a ∧ a ≤ 60) (hb : 1 ≤ b ∧ b ≤ 60) (hn : (S.size : Int) = a + b) (hh : hgt S S.size = b) (i : Nat) (h1 : 1 ≤ i) (hi : i < S.size) {r : Int × Bool} (hr : Ev (fun k => spec_CutOf.l0 k a b S (HT S) ((i + 1 : Nat) : Int)) r) : Ev (fun k => spec_CutOf.l0 k a b S (HT S) i) (if cutC a b S i = true then ((i : Int), true) else r) := by
  obtain ⟨f1, f2, f3, f4⟩ := cut_facts hn hh i (by omega)
  apply Ev.succ
  simp only [spec_CutOf.l0, w64 (show (-9223372036854775808) ≤ a + b by omega) (by omega), if_pos (show (i : Int) < a + b by omega), if_pos (show 0 ≤ (i : Int) by omega), ht_length, if_pos (show (i : Int) < ((S.size + 1 : Nat) : Int) by omega), ht_get S (show i ≤ S.size by omega), w64 (show (-9223372036854775808) ≤ (i : Int) - hgt S i by omega) (by omega), w64 (show (-9223372036854775808) ≤ a - ((i : Int) - hgt S i) by omega) (by omega), w64 (show (-9223372036854775808) ≤ b - hgt S i by omega) (by omega)]
  refine Ev.bind (l07Gcd_ev ((i : Int) - hgt S i) (hgt S i) (by omega) (by omega)) ?_
  have no : Ev (fun k => spec_CutOf.j2 k a b S (HT S) i (hgt S i) true) r := by
    apply Ev.succ
    simp only [spec_CutOf.j2, if_true]
    rw [show (i : Int) + 1 = ((i + 1 : Nat) : Int) by omega, w64 (show (-9223372036854775808) ≤ ((i + 1 : Nat) : Int) by omega) (by omega)]
    exact hr
  unfold cutC
  by_cases c1 : Int.gcd ((i : Int) - hgt S i) (hgt S i) = 1
  · rw [show cut1 a b S i = true from decide_eq_true c1]
    simp only [if_pos (show (Int.gcd ((i : Int) - hgt S i) (hgt S i) : Int) = 1 by omega), Bool.true_and]
    refine Ev.bind (l07Gcd_ev (a - ((i : Int) - hgt S i)) (b - hgt S i) (by omega) (by omega)) ?_
    by_cases c2 : Int.gcd (a - ((i : Int) - hgt S i)) (b - hgt S i) = 1
    · rw [show cut2 a b S i = true from decide_eq_true c2, show (((Int.gcd (a - ((i : Int) - hgt S i)) (b - hgt S i) : Nat) : Int) != 1) = false by rw [c2]; rfl]
      simp only [Bool.true_and]
      apply Ev.succ
      simp only [spec_CutOf.j2, Bool.false_eq_true, if_false, if_pos (show 0 ≤ (i : Int) by omega), if_pos (show (i : Int) ≤ S.size by omega), Int.toNat_natCast]
      refine Ev.bind (l07Line_ev (hgt S i) i 0 i (by omega) (by omega) (by omega) (by omega)) ?_
      rw [show (i : Int) + 1 = ((i + 1 : Nat) : Int) by omega, w64 (show (-9223372036854775808) ≤ ((i + 1 : Nat) : Int) by omega) (by omega)]
      by_cases c3 : (S.extract 0 i).toList = (strOfNums (LINE (hgt S i) i 0 i)).toList
      · rw [show cut3 S i = true from decide_eq_true c3]
        simp only [if_pos c3, Bool.true_and, w64 (show (-9223372036854775808) ≤ a + b by omega) (by omega), w64 (show (-9223372036854775808) ≤ b - hgt S i by omega) (by omega)]
        rw [w64 (show (-9223372036854775808) ≤ a + b - (i : Int) by omega) (by omega), show a + b - (i : Int) = ((S.size - i : Nat) : Int) by omega]
        refine Ev.bind (l07Line_ev (b - hgt S i) ((S.size - i : Nat) : Int) 0 (S.size - i) (by omega) (by omega) (by omega) (by omega)) ?_
        by_cases c4 : (S.extract i S.size).toList = (strOfNums (LINE (b - hgt S i) ((S.size - i : Nat) : Int) 0 (S.size - i))).toList
        · rw [show cut4 b S i = true from decide_eq_true c4]
          simp only [if_pos c4, if_true]
          exact Ev.now _
        · rw [show cut4 b S i = false from decide_eq_false c4]
          simp only [if_neg c4, Bool.false_eq_true, if_false]
          exact hr
      · rw [show cut3 S i = false from decide_eq_false c3]
        simp only [if_neg c3, Bool.false_and, Bool.false_eq_true, if_false]
        exact hr
    · rw [show cut2 a b S i = false from decide_eq_false c2, show (((Int.gcd (a - ((i : Int) - hgt S i)) (b - hgt S i) : Nat) : Int) != 1) = true by simp; omega]
      simp only [Bool.false_and, Bool.and_false, Bool.false_eq_true, if_false]
      exact no
  · rw [show cut1 a b S i = false from decide_eq_false c1]
    simp only [if_neg (show ¬ (Int.gcd ((i : Int) - hgt S i) (hgt S i) : Int) = 1 by omega), Bool.false_and, Bool.false_eq_true, if_false]
    exact no
theorem cut_loops {S : ByteArray} {a b : Int} (ha : 1 ≤ a ∧ a ≤ 60) (hb : 1 ≤ b ∧ b ≤ 60) (hn : (S.size : Int) = a + b) (hh : hgt S S.size = b) : ∀ (d i : Nat), d + i = S.size → 1 ≤ i → ∃ r, Ev (fun k => spec_CutOf.l0 k a b S (HT S) i) r ∧ Ev (fun k => impl_CutOf.l0 k S i) r := by
  intro d
  induction d with
  | zero =>
    intro i hd h1
    refine ⟨(0, false), ?_, ?_⟩
    · apply Ev.succ
      simp only [spec_CutOf.l0, w64 (show (-9223372036854775808) ≤ a + b by omega) (by omega), if_neg (show ¬ (i : Int) < a + b by omega)]
      exact Ev.now _
    · apply Ev.succ
      simp only [impl_CutOf.l0, if_neg (show ¬ (i : Int) < S.size by omega)]
      exact Ev.now _
  | succ d ih =>
    intro i hd h1
    obtain ⟨r, r1, r2⟩ := ih (i + 1) (by omega) (by omega)
    exact ⟨_, cut_spec ha hb hn hh i h1 (by omega) r1, cut_impl ha hb hn hh i (by omega) r2⟩
theorem cut_both (a b : Int) : ∃ r : Int × Bool, Ev (fun k => spec_CutOf.f k a b) r ∧ Ev (fun k => impl_CutOf.f k a b) r := by
  have sno : Ev (fun k => spec_CutOf.j0 k a b true) (0, false) := by
    apply Ev.succ
    simp only [spec_CutOf.j0, if_true]
    exact Ev.now _
  have ino : ∀ S, Ev (fun k => impl_CutOf.j0 k S true) (0, false) := by
    intro S
    apply Ev.succ
    simp only [impl_CutOf.j0, if_true]
    exact Ev.now _
  unfold spec_CutOf.f impl_CutOf.f
  have hs := l07Pair_ev a b
  have hi := iCW_ev a b
  unfold CWi at hi
  by_cases c : (0 ≤ a ∧ a ≤ 60) ∧ (0 ≤ b ∧ b ≤ 60) ∧ Int.gcd a b = 1
  · rw [decide_eq_true c] at hs
    rw [if_pos c] at hi
    by_cases ca : a < 1
    · refine ⟨(0, false), Ev.bind hs ?_, Ev.bind hi ?_⟩
      · simp only [if_true, if_pos ca]
        exact sno
      · simp only [if_true, if_pos (show a = 0 by omega)]
        exact ino _
    · by_cases cb : b < 1
      · refine ⟨(0, false), Ev.bind hs ?_, Ev.bind hi ?_⟩
        · simp only [if_true, if_neg ca, decide_eq_true cb]
          exact sno
        · simp only [if_true, if_neg (show ¬ a = 0 by omega)]
          rw [show (b == 0) = true by simp; omega]
          exact ino _
      · obtain ⟨n, hn⟩ : ∃ n : Nat, (n : Int) = a + b := ⟨(a + b).toNat, by omega⟩
        rw [← hn] at hi
        rw [Int.toNat_natCast] at hi
        obtain ⟨l1, l2, l3⟩ := line_facts b n 0 n (by omega) (by omega) (by omega) (by omega)
        have hh : hgt (strOfNums (LINE b n 0 n)) n = b := by
          have := l3.2.2 n (by rw [l1]; exact Nat.le_refl _)
          unfold sl su at this
          rw [Int.mul_comm (n : Int) b, ← Int.sub_mul, Int.add_mul, Int.one_mul] at this
          obtain ⟨t1, t2⟩ := this
          have hp : 0 < (n : Int) := by omega
          have u1 : hgt (strOfNums (LINE b n 0 n)) n - b ≤ 0 := by
            by_cases q : hgt (strOfNums (LINE b n 0 n)) n - b ≤ 0
            · exact q
            · have := Int.mul_le_mul_of_nonneg_right (show 1 ≤ hgt (strOfNums (LINE b n 0 n)) n - b by omega) (show 0 ≤ (n : Int) by omega)
              omega
          have u2 : b - hgt (strOfNums (LINE b n 0 n)) n ≤ 0 := by
            by_cases q : b - hgt (strOfNums (LINE b n 0 n)) n ≤ 0
            · exact q
            · have := Int.mul_le_mul_of_nonneg_right (show 1 ≤ b - hgt (strOfNums (LINE b n 0 n)) n by omega) (show 0 ≤ (n : Int) by omega)
              rw [Int.sub_mul] at this
              omega
          omega
        obtain ⟨r, r1, r2⟩ := cut_loops (S := strOfNums (LINE b n 0 n)) (a := a) (b := b) (by omega) (by omega) (by rw [l1]; exact hn) (by rw [l1]; exact hh) (n - 1) 1 (by rw [l1]; omega) (Nat.le_refl _)
        refine ⟨r, Ev.bind hs ?_, Ev.bind hi ?_⟩
        · simp only [if_true, if_neg ca, decide_eq_false cb]
          apply Ev.succ
          simp only [spec_CutOf.j0, Bool.false_eq_true, if_false, ← hn, w64 (show (-9223372036854775808) ≤ (n : Int) by omega) (by omega)]
          refine Ev.bind (l07Line_ev b n 0 n (by omega) (by omega) (by omega) (by omega)) (Ev.bind (sHT_ev _ l2) ?_)
          exact r1
        · simp only [if_true, if_neg (show ¬ a = 0 by omega)]
          rw [show (b == 0) = false by simp; omega]
          apply Ev.succ
          simp only [impl_CutOf.j0, Bool.false_eq_true, if_false]
          exact r2
  · rw [decide_eq_false c] at hs
    rw [if_neg c] at hi
    refine ⟨(0, false), Ev.bind hs ?_, Ev.bind hi ?_⟩
    · simp only [Bool.false_eq_true, if_false]
      exact sno
    · simp only [Bool.false_eq_true, if_false]
      exact ino _
theorem FnExactCutOf : laws_FnExactCutOf.Pure := by
  intro a b _ _
  apply Ev.rounds
  unfold laws_FnExactCutOf.f
  obtain ⟨r, r1, r2⟩ := cut_both a b
  refine Ev.bind r1 (Ev.bind r2 ?_)
  simp only [if_true, bne_self_eq_false, Bool.false_eq_true, if_false]
  exact Ev.now _


end Go.Proofs.Ytkmghekffehimaa.Pure
