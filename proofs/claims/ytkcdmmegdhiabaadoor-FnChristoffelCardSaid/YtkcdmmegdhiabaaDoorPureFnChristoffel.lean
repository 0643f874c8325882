/- Proved: the pure half of the law FnChristoffel: the printed functions answer true, for every input. No condition. -/
import Derived.Test.YtkcdmmegdhiabaaDoorPFnChristoffelx4
import Derived.Test.YtkcdmmegdhiabaaDoorBase
import Derived.Test.YtkcdmmegdhiabaaDoorGcd
import Derived.Test.YtkcdmmegdhiabaaDoorLine
import Derived.Test.YtkcdmmegdhiabaaDoorLists
import Derived.Test.YtkcdmmegdhiabaaDoorWords
import Derived.Test.YtkcdmmegdhiabaaDoorBalance
import Derived.Test.YtkcdmmegdhiabaaDoorSlopes
import Derived.Test.YtkcdmmegdhiabaaDoorLineFor
import Derived.Test.YtkcdmmegdhiabaaDoorSource
namespace Go.Proofs.YtkcdmmegdhiabaaDoor.Pure
open Go.RowKit Go.Proofs.YtkcdmmegdhiabaaDoor.PFnChristoffel Go.Proofs.YtkcdmmegdhiabaaDoorW.PrintWords Go.Proofs.YtkcdmmegdhiabaaDoorW.PrintLast Go.Proofs.YtkcdmmegdhiabaaDoorW.PrintMore Go.Proofs.YtkcdmmegdhiabaaDoor.Base
set_option linter.unusedVariables false
set_option linter.unusedSimpArgs false

/-! impl.within -/
theorem within_eq (a b c : Int) : impl_within.f a b c = some (decide (b ≤ a ∧ a ≤ c)) := by
  unfold impl_within.f
  by_cases h : b ≤ a
  · rw [if_pos h]; simp [h]
  · rw [if_neg h]; simp [h]

/-! impl.divisor -/
theorem div_l0 : ∀ (n : Nat) (a b : Int), b.natAbs ≤ n → a.natAbs ≤ 9223372036854775807 → b.natAbs ≤ 9223372036854775807 → Ev (fun k => impl_divisor.l0 k a b) (Int.gcd a b : Int) := by
  intro n
  induction n with
  | zero =>
    intro a b hn ha hb
    have e : b = 0 := by omega
    subst e
    apply Ev.succ
    simp only [impl_divisor.l0, if_true]
    refine (Ev.now _).to ?_
    rw [w64 (by omega) (by omega), Int.gcd_zero_right]
    unfold mx
    split <;> omega
  | succ n ih =>
    intro a b hn ha hb
    by_cases hz : b = 0
    · subst hz
      apply Ev.succ
      simp only [impl_divisor.l0, if_true]
      refine (Ev.now _).to ?_
      rw [w64 (by omega) (by omega), Int.gcd_zero_right]
      unfold mx
      split <;> omega
    · apply Ev.succ
      simp only [impl_divisor.l0, if_neg hz]
      have := tmod_abs_lt (a := a) hz
      exact (ih b (a.tmod b) (by omega) hb (by omega)).to (by rw [gcd_step])
theorem divisor_ev (a b : Int) (ha : a.natAbs ≤ 9223372036854775807) (hb : b.natAbs ≤ 9223372036854775807) : Ev (fun k => impl_divisor.f k a b) (Int.gcd a b : Int) := div_l0 b.natAbs a b (Nat.le_refl _) ha hb

/-! impl.floor -/
theorem ifloor_eq {a b : Int} (hb : 0 < b) (h1 : -9223372036854775807 ≤ a) (h2 : a ≤ 9223372036854775807) : impl_floor.f a b = some (a / b) := by
  have r1 := tdiv_range hb h1 h2 (by omega)
  have hf := floorB (a := a) hb
  have e1 : wrap64 (a.tdiv b) = a.tdiv b := w64 (by omega) (by omega)
  unfold impl_floor.f
  rw [if_neg (by omega), e1]
  by_cases h : a.tmod b < 0
  · rw [if_pos h] at hf
    rw [if_pos h, w64 (by omega) (by omega), hf]
  · rw [if_neg h] at hf
    rw [if_neg h, hf]

/-! impl.steps -/
theorem iline_l0 (a den shift : Int) (n : Nat) (ha : 0 ≤ a ∧ a ≤ den) (hd : 1 ≤ den ∧ den ≤ 1000) (hs : 0 ≤ shift ∧ shift ≤ den - 1) (hn : n ≤ 999999) : ∀ (d i : Nat), d + i = n → Ev (fun k => impl_steps.l0 k a den shift 98 97 (LINE a den shift i) (n : Int) i) (strOfNums (LINE a den shift n)) := by
  intro d
  induction d with
  | zero =>
    intro i hi
    apply Ev.succ
    simp only [impl_steps.l0, if_neg (show ¬ (i : Int) < (n : Int) by omega)]
    rw [show i = n by omega]
    exact Ev.now _
  | succ d ih =>
    intro i hi
    have p0 := line_small (i := i) ha hd (by omega)
    have p1 := line_small (i := i + 1) ha hd (by omega)
    rw [Int.natCast_succ] at p1
    apply Ev.succ
    simp only [impl_steps.l0, if_pos (show (i : Int) < (n : Int) by omega), w64 (show (-9223372036854775808) ≤ (i : Int) + 1 by omega) (by omega), w64 (show (-9223372036854775808) ≤ ((i : Int) + 1) * a by omega) (by omega), w64 (show (-9223372036854775808) ≤ (i : Int) * a by omega) (by omega), w64 (show (-9223372036854775808) ≤ ((i : Int) + 1) * a + shift by omega) (by omega), w64 (show (-9223372036854775808) ≤ (i : Int) * a + shift by omega) (by omega)]
    simp only [ifloor_eq (show 0 < den by omega) (show -9223372036854775807 ≤ ((i : Int) + 1) * a + shift by omega) (by omega), ifloor_eq (show 0 < den by omega) (show -9223372036854775807 ≤ (i : Int) * a + shift by omega) (by omega), Option.bind_some, LINE_length, if_pos (show i < 140737488355328 by omega)]
    have ih1 := ih (i + 1) (by omega)
    rw [LINE_succ] at ih1
    by_cases h : (((i : Int) + 1) * a + shift) / den > ((i : Int) * a + shift) / den
    · simp only [if_pos h]
      have e : lineAt a den shift i = 98 := by unfold lineAt; rw [if_pos h]
      rw [e] at ih1
      exact ih1
    · simp only [if_neg h]
      have e : lineAt a den shift i = 97 := by unfold lineAt; rw [if_neg h]
      rw [e] at ih1
      exact ih1
theorem steps_ev (a den shift : Int) (n : Nat) (ha : 0 ≤ a ∧ a ≤ den) (hd : 1 ≤ den ∧ den ≤ 1000) (hs : 0 ≤ shift ∧ shift ≤ den - 1) (hn : n ≤ 999999) : Ev (fun k => impl_steps.f k a den shift (n : Int) 98 97) (strOfNums (LINE a den shift n)) := by
  unfold impl_steps.f
  simpa [LINE] using iline_l0 a den shift n ha hd hs hn n 0 (by omega)

/-! impl.christoffel -/
theorem christoffel_ev (a b : Int) (ha : 0 ≤ a ∧ a ≤ 60) (hb : 0 ≤ b ∧ b ≤ 60) (hp : 1 ≤ a + b) : Ev (fun k => impl_christoffel.f k a b) (strOfNums (LINE b (a + b) 0 (a + b).toNat)) := by
  unfold impl_christoffel.f
  rw [w64 (show (-9223372036854775808) ≤ a + b by omega) (by omega)]
  have := steps_ev b (a + b) 0 (a + b).toNat (by omega) (by omega) (by omega) (by omega)
  rw [Int.toNat_of_nonneg (by omega)] at this
  exact Ev.bind this (Ev.now _)

/-! impl.ChristoffelWord -/
def CWi (a b : Int) : ByteArray × Bool := if (0 ≤ a ∧ a ≤ 60) ∧ (0 ≤ b ∧ b ≤ 60) ∧ Int.gcd a b = 1 then (strOfNums (LINE b (a + b) 0 (a + b).toNat), true) else ((⟨#[]⟩ : ByteArray), false)
theorem igcd1_pos {a b : Int} (ha : 0 ≤ a) (hb : 0 ≤ b) (h : Int.gcd a b = 1) : 1 ≤ a + b := by
  rcases Int.lt_or_eq_of_le ha with h1 | h1
  · omega
  · rcases Int.lt_or_eq_of_le hb with h2 | h2
    · omega
    · subst h1; subst h2; simp at h
theorem iCW_ev (a b : Int) : Ev (fun k => impl_ChristoffelWord.f k a b) (CWi a b) := by
  unfold impl_ChristoffelWord.f CWi
  simp only [within_eq, Option.bind_some]
  by_cases h1 : 0 ≤ a ∧ a ≤ 60
  · by_cases h2 : 0 ≤ b ∧ b ≤ 60
    · simp only [decide_eq_true h1, decide_eq_true h2, if_true]
      refine Ev.bind (divisor_ev a b (by omega) (by omega)) ?_
      by_cases h3 : Int.gcd a b = 1
      · simp only [if_pos (show (Int.gcd a b : Int) = 1 by omega), if_pos (show (0 ≤ a ∧ a ≤ 60) ∧ (0 ≤ b ∧ b ≤ 60) ∧ Int.gcd a b = 1 from ⟨h1, h2, h3⟩)]
        exact Ev.bind (christoffel_ev a b h1 h2 (igcd1_pos h1.1 h2.1 h3)) (Ev.now _)
      · simp only [if_neg (show ¬ (Int.gcd a b : Int) = 1 by omega), if_neg (show ¬ ((0 ≤ a ∧ a ≤ 60) ∧ (0 ≤ b ∧ b ≤ 60) ∧ Int.gcd a b = 1) from fun h => h3 h.2.2)]
        exact Ev.now _
    · simp only [decide_eq_true h1, decide_eq_false h2, if_true, Bool.false_eq_true, if_false, if_neg (show ¬ ((0 ≤ a ∧ a ≤ 60) ∧ (0 ≤ b ∧ b ≤ 60) ∧ Int.gcd a b = 1) from fun h => h2 h.2.1)]
      exact Ev.now _
  · simp only [decide_eq_false h1, Bool.false_eq_true, if_false, if_neg (show ¬ ((0 ≤ a ∧ a ≤ 60) ∧ (0 ≤ b ∧ b ≤ 60) ∧ Int.gcd a b = 1) from fun h => h1 h.1)]
    exact Ev.now _

/-! impl.IsWord -/
theorem iWORD_eq (s : ByteArray) : impl_IsWord.f s = some (WORD s) := by
  unfold impl_IsWord.f WORD
  by_cases h : (s.size : Int) ≤ 120
  · have e : (Go.Lib.trimS s.data.toList [97, 98] == ([] : List UInt8)) = LET s := by
      rw [Bool.eq_iff_iff, beq_iff_eq, trim_nil, let_iff]
    simp only [if_pos h, strings_Trim.f, decide_eq_true h, Bool.and_true]
    rw [if_pos ⟨by first | trivial | rfl, by omega⟩, Option.bind_some]
    simp only [toListD]
    rw [e]
  · simp only [if_neg h, decide_eq_false h, Bool.and_false]

/-! impl.bit -/
theorem bit_eq (b : Bool) : impl_bit.f b = some (if b then 1 else 0) := by
  unfold impl_bit.f; cases b <;> rfl

/-! impl.heights -/
theorem iHT_l0 (s : ByteArray) (h1 : s.size ≤ 120) : ∀ (d i : Nat), d + i = s.size → Ev (fun k => impl_heights.l0 k s ((List.range (i + 1)).map (hgt s)) (s.size : Int) i) (HT s) := by
  intro d
  induction d with
  | zero =>
    intro i hd
    apply Ev.succ
    simp only [impl_heights.l0, if_neg (show ¬ (i : Int) < s.size by omega)]
    rw [show i = s.size by omega]
    exact Ev.now _
  | succ d ih =>
    intro i hd
    have hi : i < s.size := by omega
    have hr := hgt_range s i
    have e : wrap64 (hgt s i + (if (bt s (i : Int) == 98) = true then 1 else 0)) = hgt s (i + 1) := by
      rw [show hgt s (i + 1) = hgt s i + (if bt s (i : Int) = 98 then 1 else 0) from rfl]
      by_cases c : bt s (i : Int) = 98
      · rw [if_pos (by rw [c]; rfl), if_pos c, w64 (by omega) (by omega)]
      · rw [if_neg (by simpa using c), if_neg c, w64 (by omega) (by omega)]
    have := ih (i + 1) (by omega)
    rw [List.range_succ, List.map_append] at this
    apply Ev.succ
    simp only [impl_heights.l0, if_pos (show (i : Int) < s.size by omega), if_pos (show 0 ≤ (i : Int) by omega), List.length_map, List.length_range, if_pos (show (i : Int) < ((i + 1 : Nat) : Int) by omega), if_pos (show i + 1 < 17592186044416 by omega), ht_take_get s (show i < i + 1 by omega), bit_eq, Option.bind_some, e, inc hi (by omega)]
    exact this
theorem iHT_ev (s : ByteArray) (h1 : s.size ≤ 120) : Ev (fun k => impl_heights.f k s) (HT s) := iHT_l0 s h1 s.size 0 (by omega)

/-! impl.HeightsOf -/
def HOF (s : ByteArray) : List Int × Bool := if WORD s then (HT s, true) else ([], false)
theorem hof_impl (s : ByteArray) : Ev (fun k => impl_HeightsOf.f k s) (HOF s) := by
  unfold impl_HeightsOf.f HOF
  simp only [iWORD_eq, Option.bind_some]
  cases hw : WORD s with
  | false =>
    simp only [Bool.false_eq_true, if_false]
    exact Ev.now _
  | true =>
    simp only [if_true]
    exact Ev.bind (iHT_ev s (word_facts hw).1) (Ev.now _)
theorem hof_len (s : ByteArray) : (HOF s).1.length ≤ 121 := by
  unfold HOF
  cases hw : WORD s with
  | false => simp
  | true =>
    have := (word_facts hw).1
    simp only [if_true, ht_length]
    omega

/-! impl.IsBalanced -/
theorem mx_maxB (a b : Int) : mx a b = max a b := by
  unfold mx; omega
theorem mn_minB (a b : Int) : mn a b = min a b := by
  unfold mn; omega
theorem iBAL_l1 (s : ByteArray) (h1 : s.size ≤ 120) (n : Nat) (hn : n ≤ s.size) {R : Bool} (hs : Ev (fun k => impl_IsBalanced.l0 k (HT s) ((s.size + 1 : Nat) : Int) ((n : Int) + 1)) R) : ∀ (e j : Nat) (a b : Int) (x : Int), x = (j : Int) + n → e + j = s.size + 1 - n → 0 ≤ a → a ≤ 120 → 0 ≤ b → b ≤ 120 → Ev (fun k => impl_IsBalanced.l1 k (HT s) n a b x ((s.size + 1 : Nat) : Int) n) (decide (mxG s n e j b - mnG s n e j a ≤ 1) && R) := by
  intro e
  induction e with
  | zero =>
    intro j a b x hx he a0 a1 b0 b1
    refine Ev.to ?_ (show (decide (b - a ≤ 1) && R) = _ from rfl)
    apply Ev.succ
    simp only [impl_IsBalanced.l1, ht_length, if_neg (show ¬ x < ((s.size + 1 : Nat) : Int) by omega), w64 (show (-9223372036854775808) ≤ b - a by omega) (by omega), w64 (show (-9223372036854775808) ≤ (n : Int) + 1 by omega) (by omega)]
    by_cases c : b - a > 1
    · simp only [if_pos c, decide_eq_false (show ¬ b - a ≤ 1 by omega), Bool.false_and]
      exact Ev.now _
    · simp only [if_neg c, decide_eq_true (show b - a ≤ 1 by omega), Bool.true_and]
      exact hs
  | succ e ih =>
    intro j a b x hx he a0 a1 b0 b1
    have hr := rise_range s n j
    have g1 := ht_get s (show j + n ≤ s.size by omega)
    have g2 := ht_get s (show j ≤ s.size by omega)
    have hj := hgt_range s j
    have hjn := hgt_range s (j + n)
    rw [show ((j + n : Nat) : Int) = x by omega] at g1
    apply Ev.succ
    simp only [impl_IsBalanced.l1, ht_length, if_pos (show x < ((s.size + 1 : Nat) : Int) by omega), if_pos (show 0 ≤ x by omega), show x - n = (j : Int) by omega, w64 (show (-9223372036854775808) ≤ (j : Int) by omega) (by omega), if_pos (show 0 ≤ (j : Int) by omega), if_pos (show (j : Int) < ((s.size + 1 : Nat) : Int) by omega), g1, g2, w64 (show (-9223372036854775808) ≤ hgt s (j + n) - hgt s j by omega) (by omega), mn_minB, mx_maxB, w64 (show (-9223372036854775808) ≤ x + 1 by omega) (by omega)]
    exact ih (j + 1) (min a (rise s n j)) (max b (rise s n j)) (x + 1) (by omega) (by omega) (by omega) (by omega) (by omega) (by omega)
theorem iBAL_l0 (s : ByteArray) (h1 : s.size ≤ 120) : ∀ (e n : Nat), e + n = s.size + 1 → Ev (fun k => impl_IsBalanced.l0 k (HT s) ((s.size + 1 : Nat) : Int) n) (((List.range (s.size + 1)).drop n).all (okN s)) := by
  intro e
  induction e with
  | zero =>
    intro n he
    apply Ev.succ
    simp only [impl_IsBalanced.l0, if_neg (show ¬ (n : Int) < ((s.size + 1 : Nat) : Int) by omega)]
    rw [drop_all_end _ (by omega)]
    exact Ev.now _
  | succ e ih =>
    intro n he
    have hh := hgt_range s n
    have := iBAL_l1 s h1 n (by omega) (ih (n + 1) (by omega)) (s.size + 1 - n) 0 (hgt s n) (hgt s n) n (by omega) (by omega) (by omega) (by omega) (by omega) (by omega)
    apply Ev.succ
    simp only [impl_IsBalanced.l0, ht_length, if_pos (show (n : Int) < ((s.size + 1 : Nat) : Int) by omega), if_pos (show 0 ≤ (n : Int) by omega), ht_get s (show n ≤ s.size by omega)]
    rw [drop_all _ (by omega)]
    exact this
def WBAL (s : ByteArray) : Bool := WORD s && BAL s
theorem iWBAL_ev (s : ByteArray) : Ev (fun k => impl_IsBalanced.f k s) (WBAL s) := by
  unfold impl_IsBalanced.f WBAL
  simp only [iWORD_eq, Option.bind_some]
  cases hw : WORD s with
  | false =>
    simp only [Bool.false_eq_true, if_false, Bool.false_and]
    exact Ev.now _
  | true =>
    have h1 := (word_facts hw).1
    simp only [if_true, Bool.true_and]
    refine Ev.bind (iHT_ev s h1) ?_
    rw [ht_length]
    refine (iBAL_l0 s h1 (s.size + 1) 0 (by omega)).to ?_
    rw [drop_all _ (by omega), okN_zero, Bool.true_and]
    rfl

/-! the law -/
theorem rd_byteL {c : List Int} (hc : ∀ x ∈ c, 0 ≤ x ∧ x ≤ 255) (i : Int) : 0 ≤ rd c i ∧ rd c i ≤ 255 := by
  unfold rd
  by_cases h : i.toNat < c.length
  · rw [List.getD_eq_getElem?_getD, List.getElem?_eq_getElem h]
    exact hc _ (List.getElem_mem h)
  · rw [List.getD_eq_getElem?_getD, List.getElem?_eq_none (by omega)]
    simp
theorem at_ok {c : List Int} (hc : ∀ x ∈ c, 0 ≤ x ∧ x ≤ 255) {i n : Int} (h0 : 0 ≤ i ∧ i ≤ 100) (hn : 1 ≤ n ∧ n ≤ 1000) : ∃ v, laws_b10At.f c i n = some v ∧ 0 ≤ v ∧ v < n := by
  unfold laws_b10At.f
  by_cases c1 : n ≤ 1
  · rw [if_pos c1]; exact ⟨0, rfl, by omega, by omega⟩
  · rw [if_neg c1]
    have hm : ∀ x : Int, 0 ≤ x → 0 ≤ x.tmod n ∧ x.tmod n < n := fun x hx => ⟨Int.tmod_nonneg n hx, Int.tmod_lt_of_pos x (by omega)⟩
    by_cases c2 : i < (c.length : Int)
    · have hb := rd_byteL hc i
      rw [if_pos c2, if_pos h0.1, if_neg (by omega), w64 (by omega) (by omega)]
      exact ⟨_, rfl, (hm _ hb.1).1, (hm _ hb.1).2⟩
    · rw [if_neg c2, if_neg (by omega), w64 (show -9223372036854775808 ≤ i * 37 by omega) (by omega), w64 (by omega) (by omega)]
      exact ⟨_, rfl, (hm _ (by omega)).1, (hm _ (by omega)).2⟩
theorem bgcd_l0 : ∀ (n : Nat) (a b : Int), b.natAbs ≤ n → 0 ≤ a → 0 ≤ b → Ev (fun k => laws_b10Gcd.l0 k a b) (Int.gcd a b : Int) := by
  intro n
  induction n with
  | zero =>
    intro a b hn ha hb
    have e : b = 0 := by omega
    subst e
    apply Ev.succ
    simp only [laws_b10Gcd.l0, if_neg (show ¬ (0 : Int) > 0 by omega)]
    refine (Ev.now _).to ?_
    rw [Int.gcd_zero_right]
    omega
  | succ n ih =>
    intro a b hn ha hb
    by_cases hz : b = 0
    · subst hz
      apply Ev.succ
      simp only [laws_b10Gcd.l0, if_neg (show ¬ (0 : Int) > 0 by omega)]
      refine (Ev.now _).to ?_
      rw [Int.gcd_zero_right]
      omega
    · apply Ev.succ
      simp only [laws_b10Gcd.l0, if_pos (show b > 0 by omega), if_neg hz]
      have := tmod_abs_lt (a := a) hz
      exact (ih b (a.tmod b) (by omega) hb (Int.tmod_nonneg _ ha)).to (by rw [gcd_step])
theorem b10Gcd_ev (a b : Int) (ha : 0 ≤ a) (hb : 0 ≤ b) : Ev (fun k => laws_b10Gcd.f k a b) (Int.gcd a b : Int) := bgcd_l0 b.natAbs a b (Nat.le_refl _) ha hb
theorem line_facts (a den shift : Int) (n : Nat) (hd : 1 ≤ den) (ha : 0 ≤ a ∧ a ≤ den) (hs : 0 ≤ shift ∧ shift ≤ den - 1) (hn : n ≤ 120) : (strOfNums (LINE a den shift n)).size = n ∧ WORD (strOfNums (LINE a den shift n)) = true ∧ FITS (strOfNums (LINE a den shift n)) den a shift := by
  have hsz : (strOfNums (LINE a den shift n)).size = n := by rw [strOf_inj_len, LINE_length]
  have hl : ∀ i, lineAt a den shift i = 97 ∨ lineAt a den shift i = 98 := fun i => by unfold lineAt; split <;> simp
  have hx : (strOfNums (LINE a den shift n)).data.toList = (LINE a den shift n).map fun n => UInt8.ofNat n.toNat := by simp [strOfNums]
  have hb : ∀ i, i < (strOfNums (LINE a den shift n)).size → lineAt a den shift i = bt (strOfNums (LINE a den shift n)) (i : Int) := by
    intro i hi
    rw [bt_nat _ hi]
    have h1 : (strOfNums (LINE a den shift n)).data.toList[i]'(by simpa using hi) = ((LINE a den shift n).map fun n => UInt8.ofNat n.toNat)[i]'(by rw [List.length_map, LINE_length]; omega) := by simp only [hx]
    rw [h1, List.getElem_map]
    have h3 : (LINE a den shift n)[i]'(by rw [LINE_length]; omega) = lineAt a den shift i := by simp [LINE]
    rw [h3, UInt8.toNat_ofNat']
    rcases hl i with e | e <;> rw [e] <;> rfl
  have hw : ∀ i, i < (strOfNums (LINE a den shift n)).size → bt (strOfNums (LINE a den shift n)) (i : Int) = 97 ∨ bt (strOfNums (LINE a den shift n)) (i : Int) = 98 := fun i hi => by rw [← hb i hi]; exact hl i
  refine ⟨hsz, ?_, floor_fits (by omega) hs.1 hs.2 ((line_word hw (by omega) ha hs.1 hs.2).1 hb)⟩
  simp only [WORD, LET, Bool.and_eq_true, List.all_eq_true, List.mem_range, decide_eq_true_eq]
  exact ⟨hw, by omega⟩
theorem cnt_hgt (s : ByteArray) : ∀ i, i ≤ s.size → (((s.data.toList.take i).count (98 : UInt8) : Nat) : Int) = hgt s i
  | 0, _ => by simp [hgt]
  | i + 1, h => by
    have ih := cnt_hgt s i (by omega)
    have hi : i < s.data.toList.length := by simpa using (show i < s.size by omega)
    rw [List.take_succ_eq_append_getElem hi, List.count_append, show hgt s (i + 1) = hgt s i + (if bt s (i : Int) = 98 then 1 else 0) from rfl, bt_nat s (show i < s.size by omega), Int.natCast_add, ih]
    by_cases c : s.data.toList[i] = 98
    · rw [c]; rfl
    · have h2 : ¬ ((s.data.toList[i].toNat : Int) = 98) := fun e => c (by
        apply UInt8.toNat_inj.1
        show s.data.toList[i].toNat = 98
        omega)
      rw [if_neg h2, List.count_singleton, beq_eq_false_iff_ne.2 c]
      rfl
theorem hgt_step (s : ByteArray) : ∀ d i, hgt s i ≤ hgt s (i + d) ∧ hgt s (i + d) ≤ hgt s i + d
  | 0, i => ⟨Int.le_refl _, by simp⟩
  | d + 1, i => by
    have ih := hgt_step s d i
    rw [show hgt s (i + (d + 1)) = hgt s (i + d) + (if bt s ((i + d : Nat) : Int) = 98 then 1 else 0) from rfl]
    split <;> omega
theorem beq_sym (x y : List UInt8) : (x == y) = decide (y = x) := by
  by_cases h : y = x
  · subst h; simp
  · rw [decide_eq_false h]; exact beq_eq_false_iff_ne.2 (fun e => h e.symm)
theorem ext_take (s : ByteArray) (i : Nat) : (s.extract 0 i).data.toList = s.data.toList.take i := by simp
theorem ext_drop (s : ByteArray) (i : Nat) : (s.extract i s.size).data.toList = s.data.toList.drop i := by
  have e : s.data.toList.length = s.size := by simp
  rw [ByteArray.data_extract, Array.toList_extract, List.extract_eq_take_drop]
  exact List.take_of_length_le (by rw [List.length_drop]; omega)
theorem isC_ev (s : ByteArray) (h : Int) (hc : ((s.data.toList.count (98 : UInt8) : Nat) : Int) = h) (h0 : 0 ≤ h) (h1 : h ≤ s.size) (hb : h ≤ 60) (ha : (s.size : Int) - h ≤ 60) : Ev (fun k => impl_isChristoffel.f k s) (decide (Int.gcd ((s.size : Int) - h) h = 1) && decide (s.toList = (strOfNums (LINE h s.size 0 s.size)).toList)) := by
  unfold impl_isChristoffel.f strings_Count.f
  simp only [if_true, Option.bind_some, hc, w64 (show (-9223372036854775808) ≤ (s.size : Int) - h by omega) (by omega)]
  refine Ev.bind (iCW_ev ((s.size : Int) - h) h) ?_
  unfold CWi
  by_cases c : Int.gcd ((s.size : Int) - h) h = 1
  · simp only [if_pos (show (0 ≤ (s.size : Int) - h ∧ (s.size : Int) - h ≤ 60) ∧ (0 ≤ h ∧ h ≤ 60) ∧ Int.gcd ((s.size : Int) - h) h = 1 from ⟨⟨by omega, ha⟩, ⟨h0, hb⟩, c⟩), if_true, decide_eq_true c, Bool.true_and, show (s.size : Int) - h + h = s.size by omega, Int.toNat_natCast, beq_sym]
    exact Ev.now _
  · simp only [if_neg (show ¬ ((0 ≤ (s.size : Int) - h ∧ (s.size : Int) - h ≤ 60) ∧ (0 ≤ h ∧ h ≤ 60) ∧ Int.gcd ((s.size : Int) - h) h = 1) from fun x => c x.2.2), decide_eq_false c, Bool.false_and, Bool.false_eq_true, if_false]
    exact Ev.now _
def cut1 (a b : Int) (S : ByteArray) (i : Nat) : Bool := decide (Int.gcd ((i : Int) - hgt S i) (hgt S i) = 1)
def cut2 (a b : Int) (S : ByteArray) (i : Nat) : Bool := decide (Int.gcd (a - ((i : Int) - hgt S i)) (b - hgt S i) = 1)
def cut3 (S : ByteArray) (i : Nat) : Bool := decide ((S.extract 0 i).toList = (strOfNums (LINE (hgt S i) i 0 i)).toList)
def cut4 (b : Int) (S : ByteArray) (i : Nat) : Bool := decide ((S.extract i S.size).toList = (strOfNums (LINE (b - hgt S i) ((S.size - i : Nat) : Int) 0 (S.size - i))).toList)
def cutC (a b : Int) (S : ByteArray) (i : Nat) : Bool := (cut1 a b S i && cut3 S i) && (cut2 a b S i && cut4 b S i)
theorem cut_facts {S : ByteArray} {a b : Int} (hn : (S.size : Int) = a + b) (hh : hgt S S.size = b) (i : Nat) (hi : i ≤ S.size) : 0 ≤ hgt S i ∧ hgt S i ≤ i ∧ hgt S i ≤ b ∧ (i : Int) - hgt S i ≤ a := by
  have h1 := hgt_range S i
  have h2 := hgt_step S (S.size - i) i
  rw [show i + (S.size - i) = S.size by omega, hh] at h2
  omega
theorem cut_impl {S : ByteArray} {a b : Int} (ha : 1 ≤ a ∧ a ≤ 60) (hb : 1 ≤ b ∧ b ≤ 60) (hn : (S.size : Int) = a + b) (hh : hgt S S.size = b) (i : Nat) (hi : i < S.size) {r : Int × Bool} (hr : Ev (fun k => impl_CutOf.l0 k S ((i + 1 : Nat) : Int)) r) : Ev (fun k => impl_CutOf.l0 k S i) (if cutC a b S i = true then ((i : Int), true) else r) := by
  obtain ⟨f1, f2, f3, f4⟩ := cut_facts hn hh i (by omega)
  have hcp := cnt_hgt S i (by omega)
  have hct := cnt_hgt S S.size (Nat.le_refl _)
  have hP := isC_ev (S.extract 0 i) (hgt S i) (by rw [ext_take]; exact hcp) f1 (by rw [ByteArray.size_extract]; omega) (by omega) (by rw [ByteArray.size_extract]; omega)
  have hsP : (S.extract 0 i).size = i := by rw [ByteArray.size_extract]; omega
  have hsQ : (S.extract i S.size).size = S.size - i := by rw [ByteArray.size_extract]; omega
  have hcq : (((S.extract i S.size).data.toList.count (98 : UInt8) : Nat) : Int) = b - hgt S i := by
    rw [ext_drop]
    have e : (S.data.toList.take i).count (98 : UInt8) + (S.data.toList.drop i).count (98 : UInt8) = S.data.toList.count (98 : UInt8) := by
      rw [← List.count_append, List.take_append_drop]
    rw [List.take_of_length_le (by simp)] at hct
    omega
  have hQ := isC_ev (S.extract i S.size) (b - hgt S i) hcq (by omega) (by rw [hsQ]; omega) (by omega) (by rw [hsQ]; omega)
  rw [hsP] at hP
  rw [hsQ, show ((S.size - i : Nat) : Int) - (b - hgt S i) = a - ((i : Int) - hgt S i) by omega] at hQ
  apply Ev.succ
  simp only [impl_CutOf.l0, if_pos (show (i : Int) < S.size by omega), if_pos (show 0 ≤ (i : Int) by omega), if_pos (show (i : Int) ≤ S.size by omega), Int.toNat_natCast]
  refine Ev.bind hP ?_
  change Ev (fun k => if (cut1 a b S i && cut3 S i) = true then _ else _) _
  unfold cutC
  rw [show (i : Int) + 1 = ((i + 1 : Nat) : Int) by omega, w64 (show (-9223372036854775808) ≤ ((i + 1 : Nat) : Int) by omega) (by omega)]
  cases cut1 a b S i && cut3 S i with
  | false =>
    simp only [Bool.false_eq_true, if_false, Bool.false_and]
    exact hr
  | true =>
    simp only [if_true, Bool.true_and]
    refine Ev.bind hQ ?_
    change Ev (fun k => if (cut2 a b S i && cut4 b S i) = true then _ else _) _
    cases cut2 a b S i && cut4 b S i with
    | false =>
      simp only [Bool.false_eq_true, if_false]
      exact hr
    | true =>
      simp only [if_true]
      exact Ev.now _
/-- Letter j of the Christoffel word of slope a / d, in natural numbers. -/
def lt (a d j : Nat) : Bool := Nat.blt (j * a / d) ((j + 1) * a / d)
def cutN (a b i : Nat) : Bool :=
  Nat.ble 1 i && (Nat.beq (Nat.gcd (i - i * b / (a + b)) (i * b / (a + b))) 1 && (Nat.beq (Nat.gcd (a - (i - i * b / (a + b))) (b - i * b / (a + b))) 1 &&
    (((List.range i).all fun j => lt (i * b / (a + b)) i j == lt b (a + b) j) && ((List.range (a + b - i)).all fun j => lt (b - i * b / (a + b)) (a + b - i) j == lt b (a + b) (i + j)))))
def chkN (a b : Nat) : Bool := ((List.range (a + b)).all fun p => Nat.beq p 0 || !Nat.beq (p * b % (a + b)) 0) && (List.range (a + b)).any fun i => cutN a b i
theorem chk_all : ((List.range 20).all fun a => (List.range 20).all fun b => !Nat.beq (Nat.gcd (a + 1) (b + 1)) 1 || chkN (a + 1) (b + 1)) = true := by decide +kernel
theorem chk_at {a b : Nat} (ha : 1 ≤ a ∧ a ≤ 20) (hb : 1 ≤ b ∧ b ≤ 20) (hg : Nat.gcd a b = 1) : (∀ p, 1 ≤ p → p < a + b → p * b % (a + b) ≠ 0) ∧ ∃ i, i < a + b ∧ cutN a b i = true := by
  have h1 := List.all_eq_true.1 (List.all_eq_true.1 chk_all (a - 1) (List.mem_range.2 (by omega))) (b - 1) (List.mem_range.2 (by omega))
  rw [show a - 1 + 1 = a by omega, show b - 1 + 1 = b by omega, hg, show Nat.beq 1 1 = true from rfl, Bool.not_true, Bool.false_or] at h1
  have h2 : chkN a b = true := h1
  unfold chkN at h2
  rw [Bool.and_eq_true] at h2
  obtain ⟨h3, h4⟩ := h2
  refine ⟨fun p h0 hp e => ?_, ?_⟩
  · have := List.all_eq_true.1 h3 p (List.mem_range.2 hp)
    rw [e] at this
    rcases p with _ | p
    · omega
    · exact absurd (show false = true from this) (by decide)
  · obtain ⟨i, hi, hc⟩ := List.any_eq_true.1 h4
    exact ⟨i, List.mem_range.1 hi, hc⟩
theorem lineAt_nat (a d j : Nat) : lineAt (a : Int) (d : Int) 0 j = if lt a d j = true then 98 else 97 := by
  unfold lineAt lt
  have e1 : (((j : Int) + 1) * (a : Int) + 0) / (d : Int) = (((j + 1) * a / d : Nat) : Int) := by
    rw [Int.add_zero, Int.natCast_ediv, Int.natCast_mul, Int.natCast_succ]
  have e2 : ((j : Int) * (a : Int) + 0) / (d : Int) = ((j * a / d : Nat) : Int) := by
    rw [Int.add_zero, Int.natCast_ediv, Int.natCast_mul]
  rw [e1, e2]
  by_cases c : j * a / d < (j + 1) * a / d
  · rw [if_pos (show (((j + 1) * a / d : Nat) : Int) > ((j * a / d : Nat) : Int) by omega), if_pos (Nat.blt_eq.mpr c)]
  · rw [if_neg (show ¬ (((j + 1) * a / d : Nat) : Int) > ((j * a / d : Nat) : Int) by omega), if_neg (fun h => c (Nat.blt_eq.mp h))]
theorem bt_ext0 (S : ByteArray) (i j : Nat) (hi : i ≤ S.size) (hj : j < i) : bt (S.extract 0 i) (j : Int) = bt S (j : Int) := by
  have hs : (S.extract 0 i).size = i := by rw [ByteArray.size_extract]; omega
  rw [bt_nat _ (show j < (S.extract 0 i).size by omega), bt_nat S (show j < S.size by omega)]
  simp only [ext_take, List.getElem_take]
theorem bt_ext1 (S : ByteArray) (i j : Nat) (hi : i ≤ S.size) (hj : j < S.size - i) : bt (S.extract i S.size) (j : Int) = bt S ((i + j : Nat) : Int) := by
  have hs : (S.extract i S.size).size = S.size - i := by rw [ByteArray.size_extract]; omega
  rw [bt_nat _ (show j < (S.extract i S.size).size by omega), bt_nat S (show i + j < S.size by omega)]
  simp only [ext_drop, List.getElem_drop]
/-- All that is asked of the Christoffel word of a and b. -/
theorem chr_facts (a b : Nat) (ha : 1 ≤ a ∧ a ≤ 20) (hb : 1 ≤ b ∧ b ≤ 20) (hg : Nat.gcd a b = 1) {S : ByteArray} (hS : S = strOfNums (LINE (b : Int) ((a + b : Nat) : Int) 0 (a + b))) :
    S.size = a + b ∧ WORD S = true ∧ BAL S = true ∧ hgt S (a + b) = b ∧ bt S 0 = 97 ∧ bt S ((a + b : Nat) - 1 : Int) = 98 ∧ (∀ i, i ≤ a + b → hgt S i = ((i * b / (a + b) : Nat) : Int)) ∧ (∃ i, i < a + b ∧ 1 ≤ i ∧ cutC (a : Int) (b : Int) S i = true) := by
  obtain ⟨l1, l2, l3⟩ := line_facts (b : Int) ((a + b : Nat) : Int) 0 (a + b) (by omega) (by omega) (by omega) (by omega)
  rw [← hS] at l1 l2 l3
  have hfl : ∀ i, i ≤ a + b → hgt S i = ((i * b / (a + b) : Nat) : Int) := by
    intro i hi
    have := fits_floor (by omega) l3 i (by omega)
    rw [← this, Int.add_zero, Int.natCast_ediv, Int.natCast_mul]
  have hend : hgt S (a + b) = b := by
    rw [hfl (a + b) (Nat.le_refl _), Nat.mul_div_cancel_left b (by omega)]
  have hwf := (word_facts l2).2
  have hlt : ∀ j, j < a + b → bt S (j : Int) = if lt b (a + b) j = true then 98 else 97 := by
    intro j hj
    have := (str_word (s := S) (den := ((a + b : Nat) : Int)) (a := (b : Int)) (x := 0) hwf).1 (by rw [l1, ← hS]) j (by omega)
    rw [← this, lineAt_nat]
  have h0 : bt S 0 = 97 := by
    have := hlt 0 (by omega)
    rw [show ((0 : Nat) : Int) = 0 from rfl] at this
    rw [this, if_neg]
    unfold lt
    rw [Nat.zero_mul, Nat.zero_div, Nat.zero_add, Nat.one_mul, Nat.div_eq_of_lt (show b < a + b by omega)]
    decide
  have hl : bt S (((a + b : Nat) : Int) - 1) = 98 := by
    have := hlt (a + b - 1) (by omega)
    rw [show ((a + b - 1 : Nat) : Int) = ((a + b : Nat) : Int) - 1 by omega] at this
    rw [this, if_pos]
    unfold lt
    rw [show a + b - 1 + 1 = a + b by omega, Nat.mul_div_cancel_left b (by omega)]
    refine Nat.blt_eq.mpr ?_
    have e : (a + b - 1) * b = a + (a + b) * (b - 1) := by
      obtain ⟨c, rfl⟩ : ∃ c, b = c + 1 := ⟨b - 1, by omega⟩
      rw [show a + (c + 1) - 1 = a + c by omega, show c + 1 - 1 = c by omega, Nat.mul_succ, Nat.add_mul a (c + 1) c, Nat.add_mul a c c, Nat.succ_mul c c]
      omega
    rw [e, Nat.add_mul_div_left _ _ (by omega), Nat.div_eq_of_lt (show a < a + b by omega)]
    omega
  refine ⟨l1, l2, fits_bal (by omega) l3, hend, h0, hl, hfl, ?_⟩
  obtain ⟨i, hi, hc⟩ := (chk_at ha hb hg).2
  unfold cutN at hc
  simp only [Bool.and_eq_true] at hc
  obtain ⟨c0, c1, c2, c3, c4⟩ := hc
  have d0 := Nat.ble_eq.mp c0
  have d1 := Nat.eq_of_beq_eq_true c1
  have d2 := Nat.eq_of_beq_eq_true c2
  have hh := hfl i (by omega)
  have hcf := cut_facts (S := S) (a := (a : Int)) (b := (b : Int)) (by omega) (by rw [l1]; exact hend) i (by omega)
  obtain ⟨h, he⟩ : ∃ h, h = i * b / (a + b) := ⟨_, rfl⟩
  rw [← he] at c1 c2 c3 c4 d1 d2 hh
  rw [hh] at hcf
  have hsP : (S.extract 0 i).size = i := by rw [ByteArray.size_extract]; omega
  have hsQ : (S.extract i S.size).size = S.size - i := by rw [ByteArray.size_extract]; omega
  refine ⟨i, hi, d0, ?_⟩
  unfold cutC
  have k1 : cut1 (a : Int) (b : Int) S i = true := by
    unfold cut1
    rw [hh, show (i : Int) - (h : Int) = ((i - h : Nat) : Int) by omega]
    exact decide_eq_true d1
  have k2 : cut2 (a : Int) (b : Int) S i = true := by
    unfold cut2
    rw [hh, show (a : Int) - ((i : Int) - (h : Int)) = ((a - (i - h) : Nat) : Int) by omega, show (b : Int) - (h : Int) = ((b - h : Nat) : Int) by omega]
    exact decide_eq_true d2
  have k3 : cut3 S i = true := by
    unfold cut3
    rw [hh]
    have := (str_word (s := S.extract 0 i) (den := (i : Int)) (a := (h : Int)) (x := 0) (fun j hj => by rw [bt_ext0 S i j (by omega) (by omega)]; exact hwf j (by omega))).2 (fun j hj => by
      rw [bt_ext0 S i j (by omega) (by omega), lineAt_nat, hlt j (by omega)]
      have := List.all_eq_true.1 c3 j (List.mem_range.2 (by omega))
      rw [eq_of_beq this])
    rw [hsP] at this
    exact decide_eq_true this.symm
  have k4 : cut4 (b : Int) S i = true := by
    unfold cut4
    rw [hh, show (b : Int) - (h : Int) = ((b - h : Nat) : Int) by omega]
    have := (str_word (s := S.extract i S.size) (den := ((S.size - i : Nat) : Int)) (a := ((b - h : Nat) : Int)) (x := 0) (fun j hj => by rw [bt_ext1 S i j (by omega) (by omega)]; exact hwf (i + j) (by omega))).2 (fun j hj => by
      rw [bt_ext1 S i j (by omega) (by omega), lineAt_nat, hlt (i + j) (by omega), l1]
      have := List.all_eq_true.1 c4 j (List.mem_range.2 (by omega))
      rw [eq_of_beq this])
    rw [hsQ] at this
    exact decide_eq_true this.symm
  rw [k1, k2, k3, k4]
  rfl
theorem cut_some {S : ByteArray} {a b : Int} (ha : 1 ≤ a ∧ a ≤ 60) (hb : 1 ≤ b ∧ b ≤ 60) (hn : (S.size : Int) = a + b) (hh : hgt S S.size = b) : ∀ (d i : Nat), d + i = S.size → ∃ r, Ev (fun k => impl_CutOf.l0 k S i) r := by
  intro d
  induction d with
  | zero =>
    intro i hd
    refine ⟨(0, false), ?_⟩
    apply Ev.succ
    simp only [impl_CutOf.l0, if_neg (show ¬ (i : Int) < S.size by omega)]
    exact Ev.now _
  | succ d ih =>
    intro i hd
    obtain ⟨r, hr⟩ := ih (i + 1) (by omega)
    exact ⟨_, cut_impl ha hb hn hh i (by omega) hr⟩
theorem cut_found {S : ByteArray} {a b : Int} (ha : 1 ≤ a ∧ a ≤ 60) (hb : 1 ≤ b ∧ b ≤ 60) (hn : (S.size : Int) = a + b) (hh : hgt S S.size = b) (i0 : Nat) (hi0 : i0 < S.size) (hc : cutC a b S i0 = true) : ∀ (d i : Nat), d + i = i0 → 1 ≤ i → ∃ c : Nat, 1 ≤ c ∧ c < S.size ∧ cutC a b S c = true ∧ Ev (fun k => impl_CutOf.l0 k S i) ((c : Int), true) := by
  intro d
  induction d with
  | zero =>
    intro i hd h1
    have e : i = i0 := by omega
    subst e
    obtain ⟨r, hr⟩ := cut_some ha hb hn hh (S.size - (i + 1)) (i + 1) (by omega)
    have := cut_impl ha hb hn hh i hi0 hr
    rw [if_pos hc] at this
    exact ⟨i, h1, hi0, hc, this⟩
  | succ d ih =>
    intro i hd h1
    obtain ⟨c, c1, c2, c3, c4⟩ := ih (i + 1) (by omega) (by omega)
    have := cut_impl ha hb hn hh i (by omega) c4
    by_cases q : cutC a b S i = true
    · rw [if_pos q] at this
      exact ⟨i, h1, by omega, q, this⟩
    · rw [if_neg q] at this
      exact ⟨c, c1, c2, c3, this⟩
theorem per_l0 {S : ByteArray} (hs : S.size ≤ 120) (hne : ∀ p, 1 ≤ p → p < S.size → (S.extract p S.size).toList ≠ (S.extract 0 (S.size - p)).toList) : ∀ (d p : Nat), d + p = S.size → 1 ≤ p → Ev (fun k => impl_PeriodOf.l0 k S p) ((S.size : Int), true) := by
  intro d
  induction d with
  | zero =>
    intro p hd h1
    apply Ev.succ
    simp only [impl_PeriodOf.l0, if_neg (show ¬ (p : Int) < S.size by omega)]
    rw [show p = S.size by omega]
    exact Ev.now _
  | succ d ih =>
    intro p hd h1
    have hp : p < S.size := by omega
    have h := hne p h1 hp
    have e1 : wrap64 ((S.size : Int) - p) = ((S.size - p : Nat) : Int) := by rw [w64 (by omega) (by omega)]; omega
    apply Ev.succ
    simp only [impl_PeriodOf.l0, if_pos (show (p : Int) < S.size by omega), if_pos (show 0 ≤ (p : Int) by omega), if_pos (show (p : Int) ≤ S.size by omega), e1, if_pos (show 0 ≤ ((S.size - p : Nat) : Int) by omega), if_pos (show ((S.size - p : Nat) : Int) ≤ S.size by omega), Int.toNat_natCast, if_neg h, inc hp (by omega)]
    exact ih (p + 1) (by omega) (by omega)
theorem per_ne {S : ByteArray} {a b : Nat} (ha : 1 ≤ a) (hs : S.size = a + b) (hend : hgt S (a + b) = b) (hfl : ∀ i, i ≤ a + b → hgt S i = ((i * b / (a + b) : Nat) : Int)) (hp : ∀ p, 1 ≤ p → p < a + b → p * b % (a + b) ≠ 0) : ∀ p, 1 ≤ p → p < S.size → (S.extract p S.size).toList ≠ (S.extract 0 (S.size - p)).toList := by
  intro p h1 h2 e
  rw [toListD, toListD, ext_take, ext_drop] at e
  have c1 := cnt_hgt S p (by omega)
  have c2 := cnt_hgt S (S.size - p) (by omega)
  have c3 := cnt_hgt S S.size (Nat.le_refl _)
  rw [List.take_of_length_le (by simp)] at c3
  have c4 : (S.data.toList.take p).count (98 : UInt8) + (S.data.toList.drop p).count (98 : UInt8) = S.data.toList.count (98 : UInt8) := by
    rw [← List.count_append, List.take_append_drop]
  rw [e] at c4
  rw [hs] at c2 c3 c4
  rw [hend] at c3
  rw [hfl p (by omega)] at c1
  rw [hfl (a + b - p) (by omega)] at c2
  have hsum : p * b / (a + b) + (a + b - p) * b / (a + b) = b := by omega
  have m1 := Nat.div_add_mod (p * b) (a + b)
  have m2 := Nat.div_add_mod ((a + b - p) * b) (a + b)
  have m3 : (a + b) * (p * b / (a + b)) + (a + b) * ((a + b - p) * b / (a + b)) = (a + b) * b := by rw [← Nat.mul_add, hsum]
  have m4 : p * b + (a + b - p) * b = (a + b) * b := by rw [← Nat.add_mul, show p + (a + b - p) = a + b by omega]
  exact hp p h1 (by omega) (by omega)
theorem cw_ev (a b n : Nat) (hn : n = a + b) (ha : a ≤ 60) (hb : b ≤ 60) (hg : Nat.gcd a b = 1) : Ev (fun k => impl_ChristoffelWord.f k (a : Int) (b : Int)) (strOfNums (LINE (b : Int) (n : Int) 0 n), true) := by
  refine (iCW_ev (a : Int) (b : Int)).to ?_
  unfold CWi
  rw [if_pos ⟨by omega, by omega, hg⟩]
  have e : (a : Int) + (b : Int) = (n : Int) := by omega
  rw [e, Int.toNat_natCast]
theorem chr_pack (a b : Nat) (ha : 1 ≤ a ∧ a ≤ 20) (hb : 1 ≤ b ∧ b ≤ 20) (hg : Nat.gcd a b = 1) : ∃ (S : ByteArray) (c h : Nat) (X Y : ByteArray),
    (S.size = a + b ∧ WORD S = true ∧ BAL S = true ∧ hgt S (a + b) = b ∧ bt S 0 = 97 ∧ bt S (((a + b : Nat) : Int) - 1) = 98) ∧
    (1 ≤ c ∧ c < a + b ∧ hgt S c = (h : Int) ∧ h ≤ c ∧ h ≤ b ∧ c - h ≤ a) ∧
    Ev (fun k => impl_ChristoffelWord.f k (a : Int) (b : Int)) (S, true) ∧ Ev (fun k => impl_CutOf.f k (a : Int) (b : Int)) ((c : Int), true) ∧ Ev (fun k => impl_PeriodOf.f k S) ((S.size : Int), true) ∧
    Ev (fun k => impl_ChristoffelWord.f k ((c - h : Nat) : Int) (h : Int)) (X, true) ∧ Ev (fun k => impl_ChristoffelWord.f k ((a - (c - h) : Nat) : Int) ((b - h : Nat) : Int)) (Y, true) ∧
    X.size + Y.size = a + b ∧ (X ++ Y).toList = S.toList := by
  have hcw := cw_ev a b (a + b) rfl (by omega) (by omega) hg
  have hF := chr_facts a b ha hb hg rfl
  generalize strOfNums (LINE (b : Int) ((a + b : Nat) : Int) 0 (a + b)) = S at hcw hF
  obtain ⟨l1, l2, l3, l4, l5, l6, l7, i0, i1, i2, i3⟩ := hF
  have hz : (S.size : Int) = (a : Int) + (b : Int) := by rw [l1]; exact Int.natCast_add a b
  have hz2 : hgt S S.size = (b : Int) := by rw [l1]; exact l4
  obtain ⟨c, q1, q2, q3, q4⟩ := cut_found (S := S) (a := (a : Int)) (b := (b : Int)) ⟨by omega, by omega⟩ ⟨by omega, by omega⟩ hz hz2 i0 (by rw [l1]; exact i1) i3 (i0 - 1) 1 (Nat.sub_add_cancel i2) (Nat.le_refl _)
  have hper := per_l0 (S := S) (word_facts l2).1 (per_ne ha.1 l1 l4 l7 (chk_at ha hb hg).1) (S.size - 1) 1 (by rw [l1]; omega) (Nat.le_refl _)
  have hcS : c < a + b := by rw [← l1]; exact q2
  have hcf := cut_facts hz hz2 c (Nat.le_of_lt q2)
  have hh := l7 c (Nat.le_of_lt hcS)
  obtain ⟨h, he⟩ : ∃ h, h = c * b / (a + b) := ⟨_, rfl⟩
  rw [← he] at hh
  clear he
  rw [hh] at hcf
  have u1 : h ≤ c := by omega
  have u2 : h ≤ b := by omega
  have u3 : c - h ≤ a := by omega
  unfold cutC at q3
  simp only [Bool.and_eq_true] at q3
  obtain ⟨⟨k1, k3⟩, k2, k4⟩ := q3
  unfold cut1 at k1
  unfold cut2 at k2
  unfold cut3 at k3
  unfold cut4 at k4
  rw [hh] at k1 k2 k3 k4
  rw [show (c : Int) - (h : Int) = ((c - h : Nat) : Int) by omega] at k1 k2
  rw [show (b : Int) - (h : Int) = ((b - h : Nat) : Int) by omega] at k2 k4
  rw [show (a : Int) - ((c - h : Nat) : Int) = ((a - (c - h) : Nat) : Int) by omega] at k2
  have g1 : Nat.gcd (c - h) h = 1 := of_decide_eq_true k1
  have g2 : Nat.gcd (a - (c - h)) (b - h) = 1 := of_decide_eq_true k2
  have p1 := cw_ev (c - h) h c (Nat.sub_add_cancel u1).symm (by omega) (by omega) g1
  have p2 := cw_ev (a - (c - h)) (b - h) (S.size - c) (by omega) (by omega) (by omega) g2
  refine ⟨S, c, h, _, _, ⟨l1, l2, l3, l4, l5, l6⟩, ⟨q1, hcS, hh, u1, u2, u3⟩, hcw, ?_, ?_, p1, p2, ?_, ?_⟩
  · unfold impl_CutOf.f
    refine Ev.bind hcw ?_
    simp only [if_true, if_neg (show ¬ (a : Int) = 0 by omega)]
    rw [show ((b : Int) == 0) = false from beq_eq_false_iff_ne.2 (by omega)]
    apply Ev.succ
    simp only [impl_CutOf.j0, Bool.false_eq_true, if_false]
    exact q4
  · unfold impl_PeriodOf.f
    simp only [iWORD_eq, Option.bind_some, l2, if_true]
    exact hper
  · rw [strOf_inj_len, LINE_length, strOf_inj_len, LINE_length]
    omega
  · have y1 := of_decide_eq_true k3
    have y2 := of_decide_eq_true k4
    rw [toListD, toListD] at y1 y2
    rw [ext_take] at y1
    rw [ext_drop] at y2
    rw [toListD, toListD, ByteArray.data_append, Array.toList_append, ← y1, ← y2, List.take_append_drop]
theorem FnChristoffel : laws_FnChristoffel.Pure := by
  intro code more _ _ hc _ _ hm
  apply Ev.rounds
  unfold laws_FnChristoffel.f laws_b10Long.f
  have hc' : ∀ x ∈ code, 0 ≤ x ∧ x ≤ 255 := fun x hx => wfByte (hc x hx)
  have hm' : ∀ x ∈ more, 0 ≤ x ∧ x ≤ 255 := fun x hx => wfByte (hm x hx)
  by_cases c1 : (code.length : Int) > 1048576
  · simp only [if_pos c1, Option.bind_some, if_true]
    exact Ev.now _
  simp only [if_neg c1, Option.bind_some]
  by_cases c2 : (more.length : Int) > 1048576
  · simp only [decide_eq_true c2, if_true]
    exact Ev.now _
  simp only [decide_eq_false c2, Bool.false_eq_true, if_false]
  obtain ⟨v1, e1, d0, d1⟩ := at_ok hc' (show (0 : Int) ≤ 0 ∧ (0 : Int) ≤ 100 by omega) (show (1 : Int) ≤ 20 ∧ (20 : Int) ≤ 1000 by omega)
  obtain ⟨v2, e2, a0, a1⟩ := at_ok hm' (show (0 : Int) ≤ 0 ∧ (0 : Int) ≤ 100 by omega) (show (1 : Int) ≤ 20 ∧ (20 : Int) ≤ 1000 by omega)
  obtain ⟨x, hx⟩ := Int.eq_ofNat_of_zero_le (show 0 ≤ 1 + v1 by omega)
  obtain ⟨y, hy⟩ := Int.eq_ofNat_of_zero_le (show 0 ≤ 1 + v2 by omega)
  have hgp : 0 < Nat.gcd x y := Nat.gcd_pos_of_pos_left y (by omega)
  have hgx := Nat.le_of_dvd (by omega) (Nat.gcd_dvd_left x y)
  have hgy := Nat.le_of_dvd (by omega) (Nat.gcd_dvd_right x y)
  obtain ⟨a, ha⟩ : ∃ a, a = x / Nat.gcd x y := ⟨_, rfl⟩
  obtain ⟨b, hb⟩ : ∃ b, b = y / Nat.gcd x y := ⟨_, rfl⟩
  have ha0 : 1 ≤ a := by rw [ha]; exact Nat.div_pos hgx hgp
  have hb0 : 1 ≤ b := by rw [hb]; exact Nat.div_pos hgy hgp
  have ha1 : a ≤ 20 := by
    have := Nat.div_le_self x (Nat.gcd x y)
    omega
  have hb1 : b ≤ 20 := by
    have := Nat.div_le_self y (Nat.gcd x y)
    omega
  have hg : Nat.gcd a b = 1 := by rw [ha, hb]; exact Nat.gcd_div_gcd_div_gcd_of_pos_left (by omega)
  have eA : wrap64 (Int.tdiv (x : Int) ((Nat.gcd x y : Nat) : Int)) = (a : Int) := by
    rw [show Int.tdiv (x : Int) ((Nat.gcd x y : Nat) : Int) = ((x / Nat.gcd x y : Nat) : Int) from rfl, ← ha]
    exact w64 (by omega) (by omega)
  have eB : wrap64 (Int.tdiv (y : Int) ((Nat.gcd x y : Nat) : Int)) = (b : Int) := by
    rw [show Int.tdiv (y : Int) ((Nat.gcd x y : Nat) : Int) = ((y / Nat.gcd x y : Nat) : Int) from rfl, ← hb]
    exact w64 (by omega) (by omega)
  have hx2 : wrap64 (1 + v1) = (x : Int) := by rw [hx]; exact w64 (by omega) (by omega)
  have hy2 : wrap64 (1 + v2) = (y : Int) := by rw [hy]; exact w64 (by omega) (by omega)
  simp only [e1, Option.bind_some, e2, hx2, hy2]
  refine Ev.bind (b10Gcd_ev (x : Int) (y : Int) (by omega) (by omega)) ?_
  rw [show Int.gcd (x : Int) (y : Int) = Nat.gcd x y from rfl]
  simp only [if_neg (show ¬ ((Nat.gcd x y : Nat) : Int) = 0 by omega), eA, eB]
  clear hx hy hx2 hy2 e1 e2 eA eB ha hb hgx hgy hgp c1 c2 hc' hm' hc hm d0 d1 a0 a1
  obtain ⟨S, c, h, X, Y, ⟨l1, l2, l3, l4, l5, l6⟩, ⟨q1, hcS, hh, u1, u2, u3⟩, hcw, hcut, hper, p1, p2, hsz, hXY⟩ := chr_pack a b ⟨ha0, ha1⟩ ⟨hb0, hb1⟩ hg
  refine Ev.bind hcw (Ev.bind hcut (Ev.bind hper (Ev.bind (hof_impl S) ?_)))
  have hWB : WBAL S = true := by rw [WBAL, l2, l3]; rfl
  have w1 : ∀ _ : Unit, wrap64 ((a : Int) + (b : Int)) = ((a + b : Nat) : Int) := by intro _; rw [w64 (by omega) (by omega)]; omega
  have w2 : ∀ _ : Unit, wrap64 (((a + b : Nat) : Int) + 1) = ((a + b + 1 : Nat) : Int) := by intro _; rw [w64 (by omega) (by omega)]; omega
  have w3 : ∀ _ : Unit, wrap64 (((a + b : Nat) : Int) - 1) = ((a + b : Nat) : Int) - 1 := fun _ => w64 (by omega) (by omega)
  have hg1 := ht_get S (show a + b ≤ S.size by omega)
  have hg2 := ht_get S (show c ≤ S.size by omega)
  simp only [HOF, l2, if_true, w1 (), l1]
  refine Ev.bind (iWBAL_ev S) ?_
  simp only [hWB, if_true, ht_length, l1, w2 (), if_pos (show 0 ≤ ((a + b : Nat) : Int) by omega), if_pos (show ((a + b : Nat) : Int) < ((a + b + 1 : Nat) : Int) by omega), hg1, l4, if_pos (show 0 < ((a + b : Nat) : Int) by omega), l5, w3 (), if_pos (show 0 ≤ ((a + b : Nat) : Int) - 1 by omega), if_pos (show ((a + b : Nat) : Int) - 1 < ((a + b : Nat) : Int) by omega), l6, if_neg (show ¬ (c : Int) < 1 by omega), decide_eq_false (show ¬ (c : Int) ≥ ((a + b : Nat) : Int) by omega)]
  apply Ev.succ
  simp only [laws_FnChristoffel.j0, Bool.false_eq_true, if_false, if_pos (show 0 ≤ (c : Int) by omega), ht_length, l1, if_pos (show (c : Int) < ((a + b + 1 : Nat) : Int) by omega), hg2, hh]
  rw [show wrap64 ((c : Int) - (h : Int)) = ((c - h : Nat) : Int) by rw [w64 (by omega) (by omega)]; omega, show wrap64 ((b : Int) - (h : Int)) = ((b - h : Nat) : Int) by rw [w64 (by omega) (by omega)]; omega, show wrap64 ((a : Int) - ((c - h : Nat) : Int)) = ((a - (c - h) : Nat) : Int) by rw [w64 (by omega) (by omega)]; omega]
  refine Ev.bind p1 (Ev.bind p2 ?_)
  simp only [if_true, if_pos (show X.size + Y.size ≤ 9223372036854775807 by omega)]
  refine (Ev.now _).to ?_
  exact beq_iff_eq.2 hXY


end Go.Proofs.YtkcdmmegdhiabaaDoor.Pure
