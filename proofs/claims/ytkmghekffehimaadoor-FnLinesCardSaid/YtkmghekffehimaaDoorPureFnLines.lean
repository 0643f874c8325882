/- Proved: the pure half of the law FnLines: the printed functions answer true, for every input. No condition. -/
import Derived.Test.YtkmghekffehimaaDoorPFnLinesx5
import Derived.Test.YtkmghekffehimaaDoorBase
import Derived.Test.YtkmghekffehimaaDoorLists
import Derived.Test.YtkmghekffehimaaDoorWords
import Derived.Test.YtkmghekffehimaaDoorBalance
import Derived.Test.YtkmghekffehimaaDoorGcd
import Derived.Test.YtkmghekffehimaaDoorSlopes
import Derived.Test.YtkmghekffehimaaDoorLine
import Derived.Test.YtkmghekffehimaaDoorLineFor
import Derived.Test.YtkmghekffehimaaDoorSource
namespace Go.Proofs.YtkmghekffehimaaDoor.Pure
open Go.RowKit Go.Proofs.YtkmghekffehimaaDoor.PFnLines Go.Proofs.YtkmghekffehimaaDoorW.PrintWords Go.Proofs.YtkmghekffehimaaDoorW.PrintLast Go.Proofs.YtkmghekffehimaaDoorW.PrintMore Go.Proofs.YtkmghekffehimaaDoor.Base
set_option linter.unusedVariables false
set_option linter.unusedSimpArgs false

/-! impl.IsWord -/
theorem iWORD_eq (s : ByteArray) : impl_IsWord.f s = some (WORD s) := by
  unfold impl_IsWord.f WORD
  by_cases h : (s.size : Int) ≤ 120
  · have e : (Go.Lib.trimS s.data.toList [97, 98] == ([] : List UInt8)) = LET s := by
      rw [Bool.eq_iff_iff, beq_iff_eq, trim_nil, let_iff]
    simp only [if_pos h, strings_Trim.f, decide_eq_true h, Bool.and_true]
    rw [if_pos ⟨by first | trivial | rfl, by omega⟩, Option.bind_some]
    simp only [toListD]
    rw [e]
  · simp only [if_neg h, decide_eq_false h, Bool.and_false]

/-! impl.bit -/
theorem bit_eq (b : Bool) : impl_bit.f b = some (if b then 1 else 0) := by
  unfold impl_bit.f; cases b <;> rfl

/-! impl.heights -/
theorem iHT_l0 (s : ByteArray) (h1 : s.size ≤ 120) : ∀ (d i : Nat), d + i = s.size → Ev (fun k => impl_heights.l0 k s ((List.range (i + 1)).map (hgt s)) (s.size : Int) i) (HT s) := by
  intro d
  induction d with
  | zero =>
    intro i hd
    apply Ev.succ
    simp only [impl_heights.l0, if_neg (show ¬ (i : Int) < s.size by omega)]
    rw [show i = s.size by omega]
    exact Ev.now _
  | succ d ih =>
    intro i hd
    have hi : i < s.size := by omega
    have hr := hgt_range s i
    have e : wrap64 (hgt s i + (if (bt s (i : Int) == 98) = true then 1 else 0)) = hgt s (i + 1) := by
      rw [show hgt s (i + 1) = hgt s i + (if bt s (i : Int) = 98 then 1 else 0) from rfl]
      by_cases c : bt s (i : Int) = 98
      · rw [if_pos (by rw [c]; rfl), if_pos c, w64 (by omega) (by omega)]
      · rw [if_neg (by simpa using c), if_neg c, w64 (by omega) (by omega)]
    have := ih (i + 1) (by omega)
    rw [List.range_succ, List.map_append] at this
    apply Ev.succ
    simp only [impl_heights.l0, if_pos (show (i : Int) < s.size by omega), if_pos (show 0 ≤ (i : Int) by omega), List.length_map, List.length_range, if_pos (show (i : Int) < ((i + 1 : Nat) : Int) by omega), if_pos (show i + 1 < 17592186044416 by omega), ht_take_get s (show i < i + 1 by omega), bit_eq, Option.bind_some, e, inc hi (by omega)]
    exact this
theorem iHT_ev (s : ByteArray) (h1 : s.size ≤ 120) : Ev (fun k => impl_heights.f k s) (HT s) := iHT_l0 s h1 s.size 0 (by omega)

/-! impl.HeightsOf -/
def HOF (s : ByteArray) : List Int × Bool := if WORD s then (HT s, true) else ([], false)
theorem hof_impl (s : ByteArray) : Ev (fun k => impl_HeightsOf.f k s) (HOF s) := by
  unfold impl_HeightsOf.f HOF
  simp only [iWORD_eq, Option.bind_some]
  cases hw : WORD s with
  | false =>
    simp only [Bool.false_eq_true, if_false]
    exact Ev.now _
  | true =>
    simp only [if_true]
    exact Ev.bind (iHT_ev s (word_facts hw).1) (Ev.now _)
theorem hof_len (s : ByteArray) : (HOF s).1.length ≤ 121 := by
  unfold HOF
  cases hw : WORD s with
  | false => simp
  | true =>
    have := (word_facts hw).1
    simp only [if_true, ht_length]
    omega

/-! impl.IsBalanced -/
theorem mx_maxB (a b : Int) : mx a b = max a b := by
  unfold mx; omega
theorem mn_minB (a b : Int) : mn a b = min a b := by
  unfold mn; omega
theorem iBAL_l1 (s : ByteArray) (h1 : s.size ≤ 120) (n : Nat) (hn : n ≤ s.size) {R : Bool} (hs : Ev (fun k => impl_IsBalanced.l0 k (HT s) ((s.size + 1 : Nat) : Int) ((n : Int) + 1)) R) : ∀ (e j : Nat) (a b : Int) (x : Int), x = (j : Int) + n → e + j = s.size + 1 - n → 0 ≤ a → a ≤ 120 → 0 ≤ b → b ≤ 120 → Ev (fun k => impl_IsBalanced.l1 k (HT s) n a b x ((s.size + 1 : Nat) : Int) n) (decide (mxG s n e j b - mnG s n e j a ≤ 1) && R) := by
  intro e
  induction e with
  | zero =>
    intro j a b x hx he a0 a1 b0 b1
    refine Ev.to ?_ (show (decide (b - a ≤ 1) && R) = _ from rfl)
    apply Ev.succ
    simp only [impl_IsBalanced.l1, ht_length, if_neg (show ¬ x < ((s.size + 1 : Nat) : Int) by omega), w64 (show (-9223372036854775808) ≤ b - a by omega) (by omega), w64 (show (-9223372036854775808) ≤ (n : Int) + 1 by omega) (by omega)]
    by_cases c : b - a > 1
    · simp only [if_pos c, decide_eq_false (show ¬ b - a ≤ 1 by omega), Bool.false_and]
      exact Ev.now _
    · simp only [if_neg c, decide_eq_true (show b - a ≤ 1 by omega), Bool.true_and]
      exact hs
  | succ e ih =>
    intro j a b x hx he a0 a1 b0 b1
    have hr := rise_range s n j
    have g1 := ht_get s (show j + n ≤ s.size by omega)
    have g2 := ht_get s (show j ≤ s.size by omega)
    have hj := hgt_range s j
    have hjn := hgt_range s (j + n)
    rw [show ((j + n : Nat) : Int) = x by omega] at g1
    apply Ev.succ
    simp only [impl_IsBalanced.l1, ht_length, if_pos (show x < ((s.size + 1 : Nat) : Int) by omega), if_pos (show 0 ≤ x by omega), show x - n = (j : Int) by omega, w64 (show (-9223372036854775808) ≤ (j : Int) by omega) (by omega), if_pos (show 0 ≤ (j : Int) by omega), if_pos (show (j : Int) < ((s.size + 1 : Nat) : Int) by omega), g1, g2, w64 (show (-9223372036854775808) ≤ hgt s (j + n) - hgt s j by omega) (by omega), mn_minB, mx_maxB, w64 (show (-9223372036854775808) ≤ x + 1 by omega) (by omega)]
    exact ih (j + 1) (min a (rise s n j)) (max b (rise s n j)) (x + 1) (by omega) (by omega) (by omega) (by omega) (by omega) (by omega)
theorem iBAL_l0 (s : ByteArray) (h1 : s.size ≤ 120) : ∀ (e n : Nat), e + n = s.size + 1 → Ev (fun k => impl_IsBalanced.l0 k (HT s) ((s.size + 1 : Nat) : Int) n) (((List.range (s.size + 1)).drop n).all (okN s)) := by
  intro e
  induction e with
  | zero =>
    intro n he
    apply Ev.succ
    simp only [impl_IsBalanced.l0, if_neg (show ¬ (n : Int) < ((s.size + 1 : Nat) : Int) by omega)]
    rw [drop_all_end _ (by omega)]
    exact Ev.now _
  | succ e ih =>
    intro n he
    have hh := hgt_range s n
    have := iBAL_l1 s h1 n (by omega) (ih (n + 1) (by omega)) (s.size + 1 - n) 0 (hgt s n) (hgt s n) n (by omega) (by omega) (by omega) (by omega) (by omega) (by omega)
    apply Ev.succ
    simp only [impl_IsBalanced.l0, ht_length, if_pos (show (n : Int) < ((s.size + 1 : Nat) : Int) by omega), if_pos (show 0 ≤ (n : Int) by omega), ht_get s (show n ≤ s.size by omega)]
    rw [drop_all _ (by omega)]
    exact this
def WBAL (s : ByteArray) : Bool := WORD s && BAL s
theorem iWBAL_ev (s : ByteArray) : Ev (fun k => impl_IsBalanced.f k s) (WBAL s) := by
  unfold impl_IsBalanced.f WBAL
  simp only [iWORD_eq, Option.bind_some]
  cases hw : WORD s with
  | false =>
    simp only [Bool.false_eq_true, if_false, Bool.false_and]
    exact Ev.now _
  | true =>
    have h1 := (word_facts hw).1
    simp only [if_true, Bool.true_and]
    refine Ev.bind (iHT_ev s h1) ?_
    rw [ht_length]
    refine (iBAL_l0 s h1 (s.size + 1) 0 (by omega)).to ?_
    rw [drop_all _ (by omega), okN_zero, Bool.true_and]
    rfl

/-! impl.compare -/
def cmpOf (a b : Int) : Int := if a < b then -1 else if a > b then 1 else 0
theorem compare_eq (a b : Int) : impl_compare.f a b = some (cmpOf a b) := by
  unfold impl_compare.f cmpOf
  by_cases h : a < b
  · rw [if_pos h, if_pos h]
  · rw [if_neg h, if_neg h]
    by_cases h2 : a > b
    · rw [if_pos h2, if_pos h2]
    · rw [if_neg h2, if_neg h2]
theorem cmp_pos (a b : Int) : cmpOf a b > 0 ↔ a > b := by
  unfold cmpOf; split <;> (try split) <;> omega
theorem cmp_neg (a b : Int) : cmpOf a b < 0 ↔ a < b := by
  unfold cmpOf; split <;> (try split) <;> omega
theorem cmp_nonneg (a b : Int) : cmpOf a b ≥ 0 ↔ a ≥ b := by
  unfold cmpOf; split <;> (try split) <;> omega
theorem cmp_nonpos (a b : Int) : cmpOf a b ≤ 0 ↔ a ≤ b := by
  unfold cmpOf; split <;> (try split) <;> omega

/-! impl.worth).against -/
theorem against_ev {a n b m : Int} (hn : n ≠ 0) (hm : m ≠ 0) (h1 : -9000000000000000000 ≤ a * m ∧ a * m ≤ 9000000000000000000) (h2 : -9000000000000000000 ≤ b * n ∧ b * n ≤ 9000000000000000000) : Ev (fun k => impl_worth_against.f k a n b m) (cmpOf (a * m) (b * n)) := by
  unfold impl_worth_against.f
  simp only [if_neg hn]
  apply Ev.succ
  simp only [impl_worth_against.j0, Bool.false_eq_true, if_false, if_neg hn, if_neg hm, w64 (show (-9223372036854775808) ≤ a * m by omega) (by omega), w64 (show (-9223372036854775808) ≤ b * n by omega) (by omega), compare_eq, Option.bind_some]
  exact Ev.now _

/-! impl.slopes -/
theorem islo_l1 (s : ByteArray) (hs : s.size ≤ 120) (j : Nat) (hj : j ≤ s.size) (hnext : ∀ lo ld hi hd, ENDS s (-2) (-3) (fun _ y => y < j + 1) lo ld hi hd → ∃ r : Int × Int × Int × Int, Ev (fun k => impl_slopes.l0 k (HT s) ((s.size + 1 : Nat) : Int) ((j : Int) + 1) lo ld hi hd) r ∧ ENDS s (-2) (-3) (fun _ _ => True) r.1 r.2.1 r.2.2.1 r.2.2.2) : ∀ (e i : Nat) (lo ld hi hd : Int), e + i = j → ENDS s (-2) (-3) (fun x y => y < j ∨ (y = j ∧ x < i)) lo ld hi hd → ∃ r : Int × Int × Int × Int, Ev (fun k => impl_slopes.l1 k (HT s) j ((s.size + 1 : Nat) : Int) j j i lo ld hi hd) r ∧ ENDS s (-2) (-3) (fun _ _ => True) r.1 r.2.1 r.2.2.1 r.2.2.2 := by
  intro e
  induction e with
  | zero =>
    intro i lo ld hi hd he h
    obtain ⟨r, hr, hr2⟩ := hnext lo ld hi hd ⟨h.l.mono (fun x y hxy hy hx => by omega), h.h.mono (fun x y hxy hy hx => by omega)⟩
    refine ⟨r, ?_, hr2⟩
    apply Ev.succ
    simp only [impl_slopes.l1, if_neg (show ¬ (i : Int) < (j : Int) by omega), w64 (show (-9223372036854775808) ≤ (j : Int) + 1 by omega) (by omega)]
    exact hr
  | succ e ih =>
    intro i lo ld hi' hd he h
    have hij : i < j := by omega
    have hb := ends_bnd h
    have hd2 := hgt_diff s hij hj hs
    have st := ends_step h hs hij hj
    have b1 := prod_bnd (a := hgt s j - hgt s i - 1) (b := ld) (by omega) (by omega)
    have b2 := prod_bnd (a := hgt s j - hgt s i + 1) (b := hd) (by omega) (by omega)
    have b3 := prod_bnd (a := lo) (b := (j : Int) - i) (by omega) (by omega)
    have b4 := prod_bnd (a := hi') (b := (j : Int) - i) (by omega) (by omega)
    have st' := ENDS.mk (st.l.mono (Q := fun x y => y < j ∨ (y = j ∧ x < i + 1)) (fun x y _ _ hx => by omega)) (st.h.mono (Q := fun x y => y < j ∨ (y = j ∧ x < i + 1)) (fun x y _ _ hx => by omega))
    obtain ⟨r, hr, hr2⟩ := ih (i + 1) _ _ _ _ (by omega) st'
    have a1 := against_ev (a := hgt s j - hgt s i - 1) (n := (j : Int) - i) (b := lo) (m := ld) (by omega) (by omega) (by omega) (by omega)
    have a2 := against_ev (a := hgt s j - hgt s i + 1) (n := (j : Int) - i) (b := hi') (m := hd) (by omega) (by omega) (by omega) (by omega)
    refine ⟨r, ?_, hr2⟩
    apply Ev.succ
    simp only [impl_slopes.l1, ht_length, if_pos (show (i : Int) < (j : Int) by omega), if_pos (show 0 ≤ (j : Int) by omega), if_pos (show (j : Int) < ((s.size + 1 : Nat) : Int) by omega), if_pos (show 0 ≤ (i : Int) by omega), if_pos (show (i : Int) < ((s.size + 1 : Nat) : Int) by omega), ht_get s hj, ht_get s (show i ≤ s.size by omega), w64 (show (-9223372036854775808) ≤ hgt s j - hgt s i by omega) (by omega), w64 (show (-9223372036854775808) ≤ hgt s j - hgt s i - 1 by omega) (by omega), w64 (show (-9223372036854775808) ≤ hgt s j - hgt s i + 1 by omega) (by omega), w64 (show (-9223372036854775808) ≤ (j : Int) - i by omega) (by omega), w64 (show (-9223372036854775808) ≤ (i : Int) + 1 by omega) (by omega)]
    refine Ev.bind a1 ?_
    by_cases c1 : (hgt s j - hgt s i - 1) * ld > lo * ((j : Int) - i)
    · simp only [if_pos ((cmp_pos _ _).2 c1)]
      refine Ev.bind a2 ?_
      by_cases c2 : (hgt s j - hgt s i + 1) * hd < hi' * ((j : Int) - i)
      · simp only [if_pos ((cmp_neg _ _).2 c2)]
        simp only [if_pos c1, if_pos c2] at hr
        exact hr
      · simp only [if_neg (fun h => c2 ((cmp_neg _ _).1 h))]
        simp only [if_pos c1, if_neg c2] at hr
        exact hr
    · simp only [if_neg (fun h => c1 ((cmp_pos _ _).1 h))]
      refine Ev.bind a2 ?_
      by_cases c2 : (hgt s j - hgt s i + 1) * hd < hi' * ((j : Int) - i)
      · simp only [if_pos ((cmp_neg _ _).2 c2)]
        simp only [if_neg c1, if_pos c2] at hr
        exact hr
      · simp only [if_neg (fun h => c2 ((cmp_neg _ _).1 h))]
        simp only [if_neg c1, if_neg c2] at hr
        exact hr
theorem islo_l0 (s : ByteArray) (hs : s.size ≤ 120) : ∀ (e j : Nat) (lo ld hi hd : Int), e + j = s.size + 1 → ENDS s (-2) (-3) (fun _ y => y < j) lo ld hi hd → ∃ r : Int × Int × Int × Int, Ev (fun k => impl_slopes.l0 k (HT s) ((s.size + 1 : Nat) : Int) j lo ld hi hd) r ∧ ENDS s (-2) (-3) (fun _ _ => True) r.1 r.2.1 r.2.2.1 r.2.2.2 := by
  intro e
  induction e with
  | zero =>
    intro j lo ld hi hd he h
    refine ⟨(lo, ld, hi, hd), ?_, ⟨h.l.mono (fun x y _ _ _ => by omega), h.h.mono (fun x y _ _ _ => by omega)⟩⟩
    apply Ev.succ
    simp only [impl_slopes.l0, if_neg (show ¬ (j : Int) < ((s.size + 1 : Nat) : Int) by omega)]
    exact Ev.now _
  | succ e ih =>
    intro j lo ld hi hd he h
    obtain ⟨r, hr, hr2⟩ := islo_l1 s hs j (by omega) (fun lo ld hi hd h => ih (j + 1) lo ld hi hd (by omega) h) j 0 lo ld hi hd (by omega) ⟨h.l.mono (fun x y _ _ hx => by omega), h.h.mono (fun x y _ _ hx => by omega)⟩
    refine ⟨r, ?_, hr2⟩
    apply Ev.succ
    simp only [impl_slopes.l0, if_pos (show (j : Int) < ((s.size + 1 : Nat) : Int) by omega)]
    exact hr
theorem islopes_ev (s : ByteArray) (h1 : s.size ≤ 120) : ∃ r : Int × Int × Int × Int, Ev (fun k => impl_slopes.f k s) r ∧ ENDS s (-2) (-3) (fun _ _ => True) r.1 r.2.1 r.2.2.1 r.2.2.2 := by
  obtain ⟨r, hr, hr2⟩ := islo_l0 s h1 (s.size + 1) 0 (-2) 1 3 1 (by omega) ⟨MXP.mono (MXP.start (by omega)) (fun x y _ _ hx => by omega), MXP.mono (MXP.start (by omega)) (fun x y _ _ hx => by omega)⟩
  refine ⟨r, ?_, hr2⟩
  unfold impl_slopes.f
  refine Ev.bind (iHT_ev s h1) ?_
  rw [ht_length]
  exact hr

/-! impl.divisor -/
theorem div_l0 : ∀ (n : Nat) (a b : Int), b.natAbs ≤ n → a.natAbs ≤ 9223372036854775807 → b.natAbs ≤ 9223372036854775807 → Ev (fun k => impl_divisor.l0 k a b) (Int.gcd a b : Int) := by
  intro n
  induction n with
  | zero =>
    intro a b hn ha hb
    have e : b = 0 := by omega
    subst e
    apply Ev.succ
    simp only [impl_divisor.l0, if_true]
    refine (Ev.now _).to ?_
    rw [w64 (by omega) (by omega), Int.gcd_zero_right]
    unfold mx
    split <;> omega
  | succ n ih =>
    intro a b hn ha hb
    by_cases hz : b = 0
    · subst hz
      apply Ev.succ
      simp only [impl_divisor.l0, if_true]
      refine (Ev.now _).to ?_
      rw [w64 (by omega) (by omega), Int.gcd_zero_right]
      unfold mx
      split <;> omega
    · apply Ev.succ
      simp only [impl_divisor.l0, if_neg hz]
      have := tmod_abs_lt (a := a) hz
      exact (ih b (a.tmod b) (by omega) hb (by omega)).to (by rw [gcd_step])
theorem divisor_ev (a b : Int) (ha : a.natAbs ≤ 9223372036854775807) (hb : b.natAbs ≤ 9223372036854775807) : Ev (fun k => impl_divisor.f k a b) (Int.gcd a b : Int) := div_l0 b.natAbs a b (Nat.le_refl _) ha hb

/-! impl.worth).lowest -/
theorem tdiv_small {a g : Int} (hg : 0 < g) (ha : -9000000000000000000 ≤ a ∧ a ≤ 9000000000000000000) : wrap64 (a.tdiv g) = a.tdiv g := by
  have := tdiv_range (m := 9000000000000000000) hg ha.1 ha.2 (by omega)
  exact w64 (by omega) (by omega)
theorem lowest_ev {a n : Int} (hn : 0 < n) (ha : -9000000000000000000 ≤ a ∧ a ≤ 9000000000000000000) (hn2 : n ≤ 9000000000000000000) : Ev (fun k => impl_worth_lowest.f k a n) (a.tdiv (Int.gcd a n : Int), n.tdiv (Int.gcd a n : Int)) := by
  have g0 : 0 < Int.gcd a n := Int.gcd_pos_of_ne_zero_right a (by omega)
  unfold impl_worth_lowest.f
  refine Ev.bind (divisor_ev a n (by omega) (by omega)) ?_
  simp only [if_neg (show ¬ (Int.gcd a n : Int) = 0 by omega), tdiv_small (show (0 : Int) < (Int.gcd a n : Int) by omega) ha, tdiv_small (show (0 : Int) < (Int.gcd a n : Int) by omega) (show -9000000000000000000 ≤ n ∧ n ≤ 9000000000000000000 by omega)]
  exact Ev.now _

/-! impl.within -/
theorem within_eq (a b c : Int) : impl_within.f a b c = some (decide (b ≤ a ∧ a ≤ c)) := by
  unfold impl_within.f
  by_cases h : b ≤ a
  · rw [if_pos h]; simp [h]
  · rw [if_neg h]; simp [h]

/-! impl.floor -/
theorem ifloor_eq {a b : Int} (hb : 0 < b) (h1 : -9223372036854775807 ≤ a) (h2 : a ≤ 9223372036854775807) : impl_floor.f a b = some (a / b) := by
  have r1 := tdiv_range hb h1 h2 (by omega)
  have hf := floorB (a := a) hb
  have e1 : wrap64 (a.tdiv b) = a.tdiv b := w64 (by omega) (by omega)
  unfold impl_floor.f
  rw [if_neg (by omega), e1]
  by_cases h : a.tmod b < 0
  · rw [if_pos h] at hf
    rw [if_pos h, w64 (by omega) (by omega), hf]
  · rw [if_neg h] at hf
    rw [if_neg h, hf]

/-! impl.steps -/
theorem iline_l0 (a den shift : Int) (n : Nat) (ha : 0 ≤ a ∧ a ≤ den) (hd : 1 ≤ den ∧ den ≤ 1000) (hs : 0 ≤ shift ∧ shift ≤ den - 1) (hn : n ≤ 999999) : ∀ (d i : Nat), d + i = n → Ev (fun k => impl_steps.l0 k a den shift 98 97 (LINE a den shift i) (n : Int) i) (strOfNums (LINE a den shift n)) := by
  intro d
  induction d with
  | zero =>
    intro i hi
    apply Ev.succ
    simp only [impl_steps.l0, if_neg (show ¬ (i : Int) < (n : Int) by omega)]
    rw [show i = n by omega]
    exact Ev.now _
  | succ d ih =>
    intro i hi
    have p0 := line_small (i := i) ha hd (by omega)
    have p1 := line_small (i := i + 1) ha hd (by omega)
    rw [Int.natCast_succ] at p1
    apply Ev.succ
    simp only [impl_steps.l0, if_pos (show (i : Int) < (n : Int) by omega), w64 (show (-9223372036854775808) ≤ (i : Int) + 1 by omega) (by omega), w64 (show (-9223372036854775808) ≤ ((i : Int) + 1) * a by omega) (by omega), w64 (show (-9223372036854775808) ≤ (i : Int) * a by omega) (by omega), w64 (show (-9223372036854775808) ≤ ((i : Int) + 1) * a + shift by omega) (by omega), w64 (show (-9223372036854775808) ≤ (i : Int) * a + shift by omega) (by omega)]
    simp only [ifloor_eq (show 0 < den by omega) (show -9223372036854775807 ≤ ((i : Int) + 1) * a + shift by omega) (by omega), ifloor_eq (show 0 < den by omega) (show -9223372036854775807 ≤ (i : Int) * a + shift by omega) (by omega), Option.bind_some, LINE_length, if_pos (show i < 140737488355328 by omega)]
    have ih1 := ih (i + 1) (by omega)
    rw [LINE_succ] at ih1
    by_cases h : (((i : Int) + 1) * a + shift) / den > ((i : Int) * a + shift) / den
    · simp only [if_pos h]
      have e : lineAt a den shift i = 98 := by unfold lineAt; rw [if_pos h]
      rw [e] at ih1
      exact ih1
    · simp only [if_neg h]
      have e : lineAt a den shift i = 97 := by unfold lineAt; rw [if_neg h]
      rw [e] at ih1
      exact ih1
theorem steps_ev (a den shift : Int) (n : Nat) (ha : 0 ≤ a ∧ a ≤ den) (hd : 1 ≤ den ∧ den ≤ 1000) (hs : 0 ≤ shift ∧ shift ≤ den - 1) (hn : n ≤ 999999) : Ev (fun k => impl_steps.f k a den shift (n : Int) 98 97) (strOfNums (LINE a den shift n)) := by
  unfold impl_steps.f
  simpa [LINE] using iline_l0 a den shift n ha hd hs hn n 0 (by omega)

/-! impl.LineWord -/
theorem iLW_ev (a den shift n : Int) : Ev (fun k => impl_LineWord.f k a den shift n) (LW a den shift n) := by
  unfold impl_LineWord.f LW
  simp only [within_eq, Option.bind_some]
  by_cases h1 : 1 ≤ den ∧ den ≤ 1000
  · rw [w64 (show (-9223372036854775808) ≤ den - 1 by omega) (by omega)]
    by_cases h2 : 0 ≤ a ∧ a ≤ den
    · by_cases h3 : 0 ≤ shift ∧ shift ≤ den - 1
      · by_cases h4 : 0 ≤ n ∧ n ≤ 120
        · simp only [decide_eq_true h1, decide_eq_true h2, decide_eq_true h3, decide_eq_true h4, if_true, if_pos (show (1 ≤ den ∧ den ≤ 1000) ∧ (0 ≤ a ∧ a ≤ den) ∧ (0 ≤ shift ∧ shift ≤ den - 1) ∧ (0 ≤ n ∧ n ≤ 120) from ⟨h1, h2, h3, h4⟩)]
          obtain ⟨m, rfl⟩ := Int.eq_ofNat_of_zero_le h4.1
          rw [Int.toNat_natCast]
          exact Ev.bind (steps_ev a den shift m h2 h1 h3 (by omega)) (Ev.now _)
        · simp only [decide_eq_true h1, decide_eq_true h2, decide_eq_true h3, decide_eq_false h4, if_true, Bool.false_eq_true, if_false, h4, and_false]
          exact Ev.now _
      · simp only [decide_eq_true h1, decide_eq_true h2, decide_eq_false h3, if_true, Bool.false_eq_true, if_false, h3, and_false, false_and]
        exact Ev.now _
    · simp only [decide_eq_true h1, decide_eq_false h2, if_true, Bool.false_eq_true, if_false, h2, and_false, false_and]
      exact Ev.now _
  · simp only [decide_eq_false h1, Bool.false_eq_true, if_false, h1, false_and]
    exact Ev.now _

/-! the law -/
theorem rd_byteL {c : List Int} (hc : ∀ x ∈ c, 0 ≤ x ∧ x ≤ 255) (i : Int) : 0 ≤ rd c i ∧ rd c i ≤ 255 := by
  unfold rd
  by_cases h : i.toNat < c.length
  · rw [List.getD_eq_getElem?_getD, List.getElem?_eq_getElem h]
    exact hc _ (List.getElem_mem h)
  · rw [List.getD_eq_getElem?_getD, List.getElem?_eq_none (by omega)]
    simp
theorem at_ok {c : List Int} (hc : ∀ x ∈ c, 0 ≤ x ∧ x ≤ 255) {i n : Int} (h0 : 0 ≤ i ∧ i ≤ 100) (hn : 1 ≤ n ∧ n ≤ 1000) : ∃ v, laws_b10At.f c i n = some v ∧ 0 ≤ v ∧ v < n := by
  unfold laws_b10At.f
  by_cases c1 : n ≤ 1
  · rw [if_pos c1]; exact ⟨0, rfl, by omega, by omega⟩
  · rw [if_neg c1]
    have hm : ∀ x : Int, 0 ≤ x → 0 ≤ x.tmod n ∧ x.tmod n < n := fun x hx => ⟨Int.tmod_nonneg n hx, Int.tmod_lt_of_pos x (by omega)⟩
    by_cases c2 : i < (c.length : Int)
    · have hb := rd_byteL hc i
      rw [if_pos c2, if_pos h0.1, if_neg (by omega), w64 (by omega) (by omega)]
      exact ⟨_, rfl, (hm _ hb.1).1, (hm _ hb.1).2⟩
    · rw [if_neg c2, if_neg (by omega), w64 (show -9223372036854775808 ≤ i * 37 by omega) (by omega), w64 (by omega) (by omega)]
      exact ⟨_, rfl, (hm _ (by omega)).1, (hm _ (by omega)).2⟩
/-- The word of a line. -/
theorem line_facts (a den shift : Int) (n : Nat) (hd : 1 ≤ den) (ha : 0 ≤ a ∧ a ≤ den) (hs : 0 ≤ shift ∧ shift ≤ den - 1) (hn : n ≤ 120) : (strOfNums (LINE a den shift n)).size = n ∧ WORD (strOfNums (LINE a den shift n)) = true ∧ FITS (strOfNums (LINE a den shift n)) den a shift := by
  have hsz : (strOfNums (LINE a den shift n)).size = n := by rw [strOf_inj_len, LINE_length]
  have hl : ∀ i, lineAt a den shift i = 97 ∨ lineAt a den shift i = 98 := fun i => by unfold lineAt; split <;> simp
  have hx : (strOfNums (LINE a den shift n)).data.toList = (LINE a den shift n).map fun n => UInt8.ofNat n.toNat := by simp [strOfNums]
  have hb : ∀ i, i < (strOfNums (LINE a den shift n)).size → lineAt a den shift i = bt (strOfNums (LINE a den shift n)) (i : Int) := by
    intro i hi
    rw [bt_nat _ hi]
    have h1 : (strOfNums (LINE a den shift n)).data.toList[i]'(by simpa using hi) = ((LINE a den shift n).map fun n => UInt8.ofNat n.toNat)[i]'(by rw [List.length_map, LINE_length]; omega) := by simp only [hx]
    rw [h1, List.getElem_map]
    have h3 : (LINE a den shift n)[i]'(by rw [LINE_length]; omega) = lineAt a den shift i := by simp [LINE]
    rw [h3, UInt8.toNat_ofNat']
    rcases hl i with e | e <;> rw [e] <;> rfl
  have hw : ∀ i, i < (strOfNums (LINE a den shift n)).size → bt (strOfNums (LINE a den shift n)) (i : Int) = 97 ∨ bt (strOfNums (LINE a den shift n)) (i : Int) = 98 := fun i hi => by rw [← hb i hi]; exact hl i
  refine ⟨hsz, ?_, floor_fits (by omega) hs.1 hs.2 ((line_word hw (by omega) ha hs.1 hs.2).1 hb)⟩
  simp only [WORD, LET, Bool.and_eq_true, List.all_eq_true, List.mem_range, decide_eq_true_eq]
  exact ⟨hw, by omega⟩
/-- What the program's slopes are for such a word. -/
theorem slopes_line {s : ByteArray} (hw : WORD s = true) (h1 : 1 ≤ s.size) {den a x : Int} (hd : 1 ≤ den ∧ den ≤ 1000) (ha : 0 ≤ a ∧ a ≤ den) (hf : FITS s den a x) : ∃ p q r t : Int, Ev (fun k => impl_SlopesOf.f k s) (p, q, r, t, true) ∧ p * den < a * q ∧ a * t < r * den ∧ (-200 ≤ p ∧ p ≤ 200) ∧ (0 ≤ q ∧ q ≤ 200) ∧ (-200 ≤ r ∧ r ≤ 200) ∧ (0 ≤ t ∧ t ≤ 200) := by
  have hs := (word_facts hw).1
  obtain ⟨⟨lo, ld, hi, hd'⟩, e2, m⟩ := islopes_ev s hs
  simp only at m
  have b := ends_bnd m
  have bw := fits_between hs hd.1 ha hf m
  have q3 := prod_bnd (a := lo) (b := hd') (by omega) (by omega)
  have q4 := prod_bnd (a := hi) (b := ld) (by omega) (by omega)
  have ag := against_ev (a := lo) (n := ld) (b := hi) (m := hd') (by omega) (by omega) (by omega) (by omega)
  have g0 : 0 < Int.gcd lo ld := Int.gcd_pos_of_ne_zero_right lo (by omega)
  have g1 : 0 < Int.gcd hi hd' := Int.gcd_pos_of_ne_zero_right hi (by omega)
  have hlt : lo * hd' < hi * ld := by
    have k1 := Int.mul_lt_mul_of_pos_right bw.1 (show 0 < hd' by omega)
    have k2 := Int.mul_lt_mul_of_pos_right bw.2 (show 0 < ld by omega)
    have t1 : lo * den * hd' = (lo * hd') * den := by simp [Int.mul_assoc, Int.mul_comm, Int.mul_left_comm]
    have t2 : a * ld * hd' = a * hd' * ld := by simp [Int.mul_assoc, Int.mul_comm, Int.mul_left_comm]
    have t3 : hi * den * ld = (hi * ld) * den := by simp [Int.mul_assoc, Int.mul_comm, Int.mul_left_comm]
    exact Int.lt_of_mul_lt_mul_right (show (lo * hd') * den < (hi * ld) * den by omega) (by omega)
  obtain ⟨p, hp⟩ := Int.gcd_dvd_left lo ld
  obtain ⟨q, hq⟩ := Int.gcd_dvd_right lo ld
  obtain ⟨r, hr⟩ := Int.gcd_dvd_left hi hd'
  obtain ⟨t, ht⟩ := Int.gcd_dvd_right hi hd'
  have ep : lo.tdiv (Int.gcd lo ld : Int) = p := by
    have : ((Int.gcd lo ld : Int) * p).tdiv (Int.gcd lo ld : Int) = p := Int.mul_tdiv_cancel_left _ (by omega)
    rwa [← hp] at this
  have eq' : ld.tdiv (Int.gcd lo ld : Int) = q := by
    have : ((Int.gcd lo ld : Int) * q).tdiv (Int.gcd lo ld : Int) = q := Int.mul_tdiv_cancel_left _ (by omega)
    rwa [← hq] at this
  have er : hi.tdiv (Int.gcd hi hd' : Int) = r := by
    have : ((Int.gcd hi hd' : Int) * r).tdiv (Int.gcd hi hd' : Int) = r := Int.mul_tdiv_cancel_left _ (by omega)
    rwa [← hr] at this
  have et : hd'.tdiv (Int.gcd hi hd' : Int) = t := by
    have : ((Int.gcd hi hd' : Int) * t).tdiv (Int.gcd hi hd' : Int) = t := Int.mul_tdiv_cancel_left _ (by omega)
    rwa [← ht] at this
  have bp := tdiv_range (a := lo) (b := (Int.gcd lo ld : Int)) (m := 200) (by omega) (by omega) (by omega) (by omega)
  have bq := tdiv_range (a := ld) (b := (Int.gcd lo ld : Int)) (m := 200) (by omega) (by omega) (by omega) (by omega)
  have br := tdiv_range (a := hi) (b := (Int.gcd hi hd' : Int)) (m := 200) (by omega) (by omega) (by omega) (by omega)
  have bt' := tdiv_range (a := hd') (b := (Int.gcd hi hd' : Int)) (m := 200) (by omega) (by omega) (by omega) (by omega)
  rw [ep] at bp
  rw [eq'] at bq
  rw [er] at br
  rw [et] at bt'
  have low := lowest_ev (a := lo) (n := ld) (by omega) (by omega) (by omega)
  have high := lowest_ev (a := hi) (n := hd') (by omega) (by omega) (by omega)
  rw [ep, eq'] at low
  rw [er, et] at high
  have pq : 0 ≤ q := by
    by_cases c : 0 ≤ q
    · exact c
    · have := Int.mul_le_mul_of_nonneg_left (show q ≤ 0 by omega) (show 0 ≤ (Int.gcd lo ld : Int) by omega)
      omega
  have pt : 0 ≤ t := by
    by_cases c : 0 ≤ t
    · exact c
    · have := Int.mul_le_mul_of_nonneg_left (show t ≤ 0 by omega) (show 0 ≤ (Int.gcd hi hd' : Int) by omega)
      omega
  refine ⟨p, q, r, t, ?_, ?_, ?_, bp, ⟨pq, bq.2⟩, br, ⟨pt, bt'.2⟩⟩
  · unfold impl_SlopesOf.f
    have h0 : ((s.size : Int) == 0) = false := beq_eq_false_iff_ne.2 (by omega)
    simp only [iWORD_eq, Option.bind_some, hw, if_true, data_nil, h0]
    apply Ev.succ
    simp only [impl_SlopesOf.j0, Bool.false_eq_true, if_false]
    refine Ev.bind e2 (Ev.bind ag ?_)
    have hneg : ¬ cmpOf (lo * hd') (hi * ld) ≥ 0 := fun h => by
      have := (cmp_nonneg _ _).1 h
      omega
    simp only [if_neg hneg]
    exact Ev.bind low (Ev.bind high (Ev.now _))
  · have k1 : (Int.gcd lo ld : Int) * (p * den) < (Int.gcd lo ld : Int) * (a * q) := by
      have t1 : lo * den = (Int.gcd lo ld : Int) * (p * den) := by
        have : (Int.gcd lo ld : Int) * p * den = (Int.gcd lo ld : Int) * (p * den) := Int.mul_assoc _ _ _
        rw [← this, ← hp]
      have t2 : a * ld = (Int.gcd lo ld : Int) * (a * q) := by
        have : (Int.gcd lo ld : Int) * (a * q) = a * ((Int.gcd lo ld : Int) * q) := Int.mul_left_comm _ _ _
        rw [this, ← hq]
      omega
    exact Int.lt_of_mul_lt_mul_left k1 (by omega)
  · have k1 : (Int.gcd hi hd' : Int) * (a * t) < (Int.gcd hi hd' : Int) * (r * den) := by
      have t1 : hi * den = (Int.gcd hi hd' : Int) * (r * den) := by
        have : (Int.gcd hi hd' : Int) * r * den = (Int.gcd hi hd' : Int) * (r * den) := Int.mul_assoc _ _ _
        rw [← this, ← hr]
      have t2 : a * hd' = (Int.gcd hi hd' : Int) * (a * t) := by
        have : (Int.gcd hi hd' : Int) * (a * t) = a * ((Int.gcd hi hd' : Int) * t) := Int.mul_left_comm _ _ _
        rw [this, ← ht]
      omega
    exact Int.lt_of_mul_lt_mul_left k1 (by omega)
theorem divFloor_eq {a b : Int} (ha : -1000000000 ≤ a ∧ a ≤ 1000000000) (hb : 1 ≤ b ∧ b ≤ 1000000000) : impl_DivFloor.f a b = some (a / b, true) := by
  unfold impl_DivFloor.f impl_divided_impl_floor.f
  simp only [within_eq, Option.bind_some, decide_eq_true ha, decide_eq_true hb, if_true, ifloor_eq (show 0 < b by omega) (show -9223372036854775807 ≤ a by omega) (by omega)]
theorem FnLines : laws_FnLines.Pure := by
  intro code more _ _ hc _ _ hm
  apply Ev.rounds
  unfold laws_FnLines.f laws_b10Long.f
  have hc' : ∀ x ∈ code, 0 ≤ x ∧ x ≤ 255 := fun x hx => wfByte (hc x hx)
  have hm' : ∀ x ∈ more, 0 ≤ x ∧ x ≤ 255 := fun x hx => wfByte (hm x hx)
  by_cases c1 : (code.length : Int) > 1048576
  · simp only [if_pos c1, Option.bind_some, if_true]
    exact Ev.now _
  simp only [if_neg c1, Option.bind_some]
  by_cases c2 : (more.length : Int) > 1048576
  · simp only [decide_eq_true c2, if_true]
    exact Ev.now _
  simp only [decide_eq_false c2, Bool.false_eq_true, if_false]
  obtain ⟨v1, e1, d0, d1⟩ := at_ok hc' (show (0 : Int) ≤ 0 ∧ (0 : Int) ≤ 100 by omega) (show (1 : Int) ≤ 40 ∧ (40 : Int) ≤ 1000 by omega)
  obtain ⟨v2, e2, a0, a1⟩ := at_ok hc' (show (0 : Int) ≤ 1 ∧ (1 : Int) ≤ 100 by omega) (show 1 ≤ 1 + v1 + 1 ∧ 1 + v1 + 1 ≤ 1000 by omega)
  obtain ⟨v3, e3, s0, s1⟩ := at_ok hc' (show (0 : Int) ≤ 2 ∧ (2 : Int) ≤ 100 by omega) (show 1 ≤ 1 + v1 ∧ 1 + v1 ≤ 1000 by omega)
  obtain ⟨v4, e4, n0, n1⟩ := at_ok hm' (show (0 : Int) ≤ 0 ∧ (0 : Int) ≤ 100 by omega) (show (1 : Int) ≤ 40 ∧ (40 : Int) ≤ 1000 by omega)
  have w1 : wrap64 (1 + v1) = 1 + v1 := w64 (by omega) (by omega)
  have w2 : wrap64 (1 + v1 + 1) = 1 + v1 + 1 := w64 (by omega) (by omega)
  have w3 : wrap64 (1 + v4) = 1 + v4 := w64 (by omega) (by omega)
  have w4 : wrap64 (1 + v4 + 1) = 1 + v4 + 1 := w64 (by omega) (by omega)
  obtain ⟨n, hn⟩ := Int.eq_ofNat_of_zero_le (show 0 ≤ 1 + v4 by omega)
  have hd : 1 ≤ 1 + v1 ∧ 1 + v1 ≤ 1000 := by omega
  have ha : 0 ≤ v2 ∧ v2 ≤ 1 + v1 := by omega
  obtain ⟨f1, f2, f3⟩ := line_facts v2 (1 + v1) v3 n hd.1 ha (by omega) (by omega)
  have hLW : LW v2 (1 + v1) v3 (1 + v4) = (strOfNums (LINE v2 (1 + v1) v3 n), true) := by
    unfold LW
    rw [if_pos ⟨hd, ha, by omega, by omega⟩, hn, Int.toNat_natCast]
  obtain ⟨p, q, r, t, hsl, k1, k2, bp, bq, br, bt'⟩ := slopes_line f2 (by omega) hd ha f3
  have hbal := fits_bal hd.1 f3
  have pa := prod_bnd (a := 1 + v4) (b := v2) (by omega) (by omega)
  have x1 := prod_bnd (a := p) (b := 1 + v1) bp (by omega)
  have x2 := prod_bnd (a := v2) (b := q) (by omega) bq
  have x3 := prod_bnd (a := v2) (b := t) (by omega) bt'
  have x4 := prod_bnd (a := r) (b := 1 + v1) br (by omega)
  have hfl := fits_floor (by omega) f3 n (by omega)
  rw [← hn] at hfl
  have hdf := divFloor_eq (a := (1 + v4) * v2 + v3) (b := 1 + v1) (by omega) (by omega)
  simp only [e1, Option.bind_some, w1, w2, e2, e3, e4, w3, w64 (show (-9223372036854775808) ≤ (1 + v4) * v2 by omega) (by omega), w64 (show (-9223372036854775808) ≤ (1 + v4) * v2 + v3 by omega) (by omega), hdf]
  refine Ev.bind ((iLW_ev v2 (1 + v1) v3 (1 + v4)).to hLW) (Ev.bind hsl (Ev.bind (hof_impl _) ?_))
  simp only [HOF, f2, if_true]
  refine Ev.bind (iWBAL_ev _) ?_
  have hWB : WBAL (strOfNums (LINE v2 (1 + v1) v3 n)) = true := by rw [WBAL, f2, hbal]; rfl
  have hg := ht_get (strOfNums (LINE v2 (1 + v1) v3 n)) (show n ≤ (strOfNums (LINE v2 (1 + v1) v3 n)).size by omega)
  rw [← hn] at hg
  simp only [hWB, if_true, ht_length, f1, w4, if_pos (show ((n + 1 : Nat) : Int) = 1 + v4 + 1 by omega), w64 (show (-9223372036854775808) ≤ p * (1 + v1) by omega) (by omega), w64 (show (-9223372036854775808) ≤ v2 * q by omega) (by omega), if_pos k1, w64 (show (-9223372036854775808) ≤ v2 * t by omega) (by omega), w64 (show (-9223372036854775808) ≤ r * (1 + v1) by omega) (by omega), if_pos k2, if_pos (show 0 ≤ 1 + v4 by omega), if_pos (show 1 + v4 < ((n + 1 : Nat) : Int) by omega), hg, hfl]
  exact (Ev.now _).to (by simp)


end Go.Proofs.YtkmghekffehimaaDoor.Pure
