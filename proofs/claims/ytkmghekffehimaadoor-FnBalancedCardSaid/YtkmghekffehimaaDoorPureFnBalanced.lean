/- Proved: the pure half of the law FnBalanced: the printed functions answer true, for every input. No condition. -/
import Derived.Test.YtkmghekffehimaaDoorPFnBalancedx7
import Derived.Test.YtkmghekffehimaaDoorBase
import Derived.Test.YtkmghekffehimaaDoorLists
import Derived.Test.YtkmghekffehimaaDoorWords
import Derived.Test.YtkmghekffehimaaDoorBalance
import Derived.Test.YtkmghekffehimaaDoorGcd
import Derived.Test.YtkmghekffehimaaDoorSlopes
import Derived.Test.YtkmghekffehimaaDoorLine
import Derived.Test.YtkmghekffehimaaDoorSource
import Derived.Test.YtkmghekffehimaaDoorLineFor
import Derived.Test.YtkmghekffehimaaDoorExist
namespace Go.Proofs.YtkmghekffehimaaDoor.Pure
open Go.RowKit Go.Proofs.YtkmghekffehimaaDoor.PFnBalanced Go.Proofs.YtkmghekffehimaaDoorW.PrintWords Go.Proofs.YtkmghekffehimaaDoorW.PrintLast Go.Proofs.YtkmghekffehimaaDoorW.PrintMore Go.Proofs.YtkmghekffehimaaDoor.Base
set_option linter.unusedVariables false
set_option linter.unusedSimpArgs false

/-! impl.IsWord -/
theorem iWORD_eq (s : ByteArray) : impl_IsWord.f s = some (WORD s) := by
  unfold impl_IsWord.f WORD
  by_cases h : (s.size : Int) ≤ 120
  · have e : (Go.Lib.trimS s.data.toList [97, 98] == ([] : List UInt8)) = LET s := by
      rw [Bool.eq_iff_iff, beq_iff_eq, trim_nil, let_iff]
    simp only [if_pos h, strings_Trim.f, decide_eq_true h, Bool.and_true]
    rw [if_pos ⟨by first | trivial | rfl, by omega⟩, Option.bind_some]
    simp only [toListD]
    rw [e]
  · simp only [if_neg h, decide_eq_false h, Bool.and_false]

/-! impl.bit -/
theorem bit_eq (b : Bool) : impl_bit.f b = some (if b then 1 else 0) := by
  unfold impl_bit.f; cases b <;> rfl

/-! impl.heights -/
theorem iHT_l0 (s : ByteArray) (h1 : s.size ≤ 120) : ∀ (d i : Nat), d + i = s.size → Ev (fun k => impl_heights.l0 k s ((List.range (i + 1)).map (hgt s)) (s.size : Int) i) (HT s) := by
  intro d
  induction d with
  | zero =>
    intro i hd
    apply Ev.succ
    simp only [impl_heights.l0, if_neg (show ¬ (i : Int) < s.size by omega)]
    rw [show i = s.size by omega]
    exact Ev.now _
  | succ d ih =>
    intro i hd
    have hi : i < s.size := by omega
    have hr := hgt_range s i
    have e : wrap64 (hgt s i + (if (bt s (i : Int) == 98) = true then 1 else 0)) = hgt s (i + 1) := by
      rw [show hgt s (i + 1) = hgt s i + (if bt s (i : Int) = 98 then 1 else 0) from rfl]
      by_cases c : bt s (i : Int) = 98
      · rw [if_pos (by rw [c]; rfl), if_pos c, w64 (by omega) (by omega)]
      · rw [if_neg (by simpa using c), if_neg c, w64 (by omega) (by omega)]
    have := ih (i + 1) (by omega)
    rw [List.range_succ, List.map_append] at this
    apply Ev.succ
    simp only [impl_heights.l0, if_pos (show (i : Int) < s.size by omega), if_pos (show 0 ≤ (i : Int) by omega), List.length_map, List.length_range, if_pos (show (i : Int) < ((i + 1 : Nat) : Int) by omega), if_pos (show i + 1 < 17592186044416 by omega), ht_take_get s (show i < i + 1 by omega), bit_eq, Option.bind_some, e, inc hi (by omega)]
    exact this
theorem iHT_ev (s : ByteArray) (h1 : s.size ≤ 120) : Ev (fun k => impl_heights.f k s) (HT s) := iHT_l0 s h1 s.size 0 (by omega)

/-! impl.HeightsOf -/
def HOF (s : ByteArray) : List Int × Bool := if WORD s then (HT s, true) else ([], false)
theorem hof_impl (s : ByteArray) : Ev (fun k => impl_HeightsOf.f k s) (HOF s) := by
  unfold impl_HeightsOf.f HOF
  simp only [iWORD_eq, Option.bind_some]
  cases hw : WORD s with
  | false =>
    simp only [Bool.false_eq_true, if_false]
    exact Ev.now _
  | true =>
    simp only [if_true]
    exact Ev.bind (iHT_ev s (word_facts hw).1) (Ev.now _)
theorem hof_len (s : ByteArray) : (HOF s).1.length ≤ 121 := by
  unfold HOF
  cases hw : WORD s with
  | false => simp
  | true =>
    have := (word_facts hw).1
    simp only [if_true, ht_length]
    omega

/-! impl.IsBalanced -/
theorem mx_maxB (a b : Int) : mx a b = max a b := by
  unfold mx; omega
theorem mn_minB (a b : Int) : mn a b = min a b := by
  unfold mn; omega
theorem iBAL_l1 (s : ByteArray) (h1 : s.size ≤ 120) (n : Nat) (hn : n ≤ s.size) {R : Bool} (hs : Ev (fun k => impl_IsBalanced.l0 k (HT s) ((s.size + 1 : Nat) : Int) ((n : Int) + 1)) R) : ∀ (e j : Nat) (a b : Int) (x : Int), x = (j : Int) + n → e + j = s.size + 1 - n → 0 ≤ a → a ≤ 120 → 0 ≤ b → b ≤ 120 → Ev (fun k => impl_IsBalanced.l1 k (HT s) n a b x ((s.size + 1 : Nat) : Int) n) (decide (mxG s n e j b - mnG s n e j a ≤ 1) && R) := by
  intro e
  induction e with
  | zero =>
    intro j a b x hx he a0 a1 b0 b1
    refine Ev.to ?_ (show (decide (b - a ≤ 1) && R) = _ from rfl)
    apply Ev.succ
    simp only [impl_IsBalanced.l1, ht_length, if_neg (show ¬ x < ((s.size + 1 : Nat) : Int) by omega), w64 (show (-9223372036854775808) ≤ b - a by omega) (by omega), w64 (show (-9223372036854775808) ≤ (n : Int) + 1 by omega) (by omega)]
    by_cases c : b - a > 1
    · simp only [if_pos c, decide_eq_false (show ¬ b - a ≤ 1 by omega), Bool.false_and]
      exact Ev.now _
    · simp only [if_neg c, decide_eq_true (show b - a ≤ 1 by omega), Bool.true_and]
      exact hs
  | succ e ih =>
    intro j a b x hx he a0 a1 b0 b1
    have hr := rise_range s n j
    have g1 := ht_get s (show j + n ≤ s.size by omega)
    have g2 := ht_get s (show j ≤ s.size by omega)
    have hj := hgt_range s j
    have hjn := hgt_range s (j + n)
    rw [show ((j + n : Nat) : Int) = x by omega] at g1
    apply Ev.succ
    simp only [impl_IsBalanced.l1, ht_length, if_pos (show x < ((s.size + 1 : Nat) : Int) by omega), if_pos (show 0 ≤ x by omega), show x - n = (j : Int) by omega, w64 (show (-9223372036854775808) ≤ (j : Int) by omega) (by omega), if_pos (show 0 ≤ (j : Int) by omega), if_pos (show (j : Int) < ((s.size + 1 : Nat) : Int) by omega), g1, g2, w64 (show (-9223372036854775808) ≤ hgt s (j + n) - hgt s j by omega) (by omega), mn_minB, mx_maxB, w64 (show (-9223372036854775808) ≤ x + 1 by omega) (by omega)]
    exact ih (j + 1) (min a (rise s n j)) (max b (rise s n j)) (x + 1) (by omega) (by omega) (by omega) (by omega) (by omega) (by omega)
theorem iBAL_l0 (s : ByteArray) (h1 : s.size ≤ 120) : ∀ (e n : Nat), e + n = s.size + 1 → Ev (fun k => impl_IsBalanced.l0 k (HT s) ((s.size + 1 : Nat) : Int) n) (((List.range (s.size + 1)).drop n).all (okN s)) := by
  intro e
  induction e with
  | zero =>
    intro n he
    apply Ev.succ
    simp only [impl_IsBalanced.l0, if_neg (show ¬ (n : Int) < ((s.size + 1 : Nat) : Int) by omega)]
    rw [drop_all_end _ (by omega)]
    exact Ev.now _
  | succ e ih =>
    intro n he
    have hh := hgt_range s n
    have := iBAL_l1 s h1 n (by omega) (ih (n + 1) (by omega)) (s.size + 1 - n) 0 (hgt s n) (hgt s n) n (by omega) (by omega) (by omega) (by omega) (by omega) (by omega)
    apply Ev.succ
    simp only [impl_IsBalanced.l0, ht_length, if_pos (show (n : Int) < ((s.size + 1 : Nat) : Int) by omega), if_pos (show 0 ≤ (n : Int) by omega), ht_get s (show n ≤ s.size by omega)]
    rw [drop_all _ (by omega)]
    exact this
def WBAL (s : ByteArray) : Bool := WORD s && BAL s
theorem iWBAL_ev (s : ByteArray) : Ev (fun k => impl_IsBalanced.f k s) (WBAL s) := by
  unfold impl_IsBalanced.f WBAL
  simp only [iWORD_eq, Option.bind_some]
  cases hw : WORD s with
  | false =>
    simp only [Bool.false_eq_true, if_false, Bool.false_and]
    exact Ev.now _
  | true =>
    have h1 := (word_facts hw).1
    simp only [if_true, Bool.true_and]
    refine Ev.bind (iHT_ev s h1) ?_
    rw [ht_length]
    refine (iBAL_l0 s h1 (s.size + 1) 0 (by omega)).to ?_
    rw [drop_all _ (by omega), okN_zero, Bool.true_and]
    rfl

/-! impl.compare -/
def cmpOf (a b : Int) : Int := if a < b then -1 else if a > b then 1 else 0
theorem compare_eq (a b : Int) : impl_compare.f a b = some (cmpOf a b) := by
  unfold impl_compare.f cmpOf
  by_cases h : a < b
  · rw [if_pos h, if_pos h]
  · rw [if_neg h, if_neg h]
    by_cases h2 : a > b
    · rw [if_pos h2, if_pos h2]
    · rw [if_neg h2, if_neg h2]
theorem cmp_pos (a b : Int) : cmpOf a b > 0 ↔ a > b := by
  unfold cmpOf; split <;> (try split) <;> omega
theorem cmp_neg (a b : Int) : cmpOf a b < 0 ↔ a < b := by
  unfold cmpOf; split <;> (try split) <;> omega
theorem cmp_nonneg (a b : Int) : cmpOf a b ≥ 0 ↔ a ≥ b := by
  unfold cmpOf; split <;> (try split) <;> omega
theorem cmp_nonpos (a b : Int) : cmpOf a b ≤ 0 ↔ a ≤ b := by
  unfold cmpOf; split <;> (try split) <;> omega

/-! impl.worth).against -/
theorem against_ev {a n b m : Int} (hn : n ≠ 0) (hm : m ≠ 0) (h1 : -9000000000000000000 ≤ a * m ∧ a * m ≤ 9000000000000000000) (h2 : -9000000000000000000 ≤ b * n ∧ b * n ≤ 9000000000000000000) : Ev (fun k => impl_worth_against.f k a n b m) (cmpOf (a * m) (b * n)) := by
  unfold impl_worth_against.f
  simp only [if_neg hn]
  apply Ev.succ
  simp only [impl_worth_against.j0, Bool.false_eq_true, if_false, if_neg hn, if_neg hm, w64 (show (-9223372036854775808) ≤ a * m by omega) (by omega), w64 (show (-9223372036854775808) ≤ b * n by omega) (by omega), compare_eq, Option.bind_some]
  exact Ev.now _

/-! impl.slopes -/
theorem islo_l1 (s : ByteArray) (hs : s.size ≤ 120) (j : Nat) (hj : j ≤ s.size) (hnext : ∀ lo ld hi hd, ENDS s (-2) (-3) (fun _ y => y < j + 1) lo ld hi hd → ∃ r : Int × Int × Int × Int, Ev (fun k => impl_slopes.l0 k (HT s) ((s.size + 1 : Nat) : Int) ((j : Int) + 1) lo ld hi hd) r ∧ ENDS s (-2) (-3) (fun _ _ => True) r.1 r.2.1 r.2.2.1 r.2.2.2) : ∀ (e i : Nat) (lo ld hi hd : Int), e + i = j → ENDS s (-2) (-3) (fun x y => y < j ∨ (y = j ∧ x < i)) lo ld hi hd → ∃ r : Int × Int × Int × Int, Ev (fun k => impl_slopes.l1 k (HT s) j ((s.size + 1 : Nat) : Int) j j i lo ld hi hd) r ∧ ENDS s (-2) (-3) (fun _ _ => True) r.1 r.2.1 r.2.2.1 r.2.2.2 := by
  intro e
  induction e with
  | zero =>
    intro i lo ld hi hd he h
    obtain ⟨r, hr, hr2⟩ := hnext lo ld hi hd ⟨h.l.mono (fun x y hxy hy hx => by omega), h.h.mono (fun x y hxy hy hx => by omega)⟩
    refine ⟨r, ?_, hr2⟩
    apply Ev.succ
    simp only [impl_slopes.l1, if_neg (show ¬ (i : Int) < (j : Int) by omega), w64 (show (-9223372036854775808) ≤ (j : Int) + 1 by omega) (by omega)]
    exact hr
  | succ e ih =>
    intro i lo ld hi' hd he h
    have hij : i < j := by omega
    have hb := ends_bnd h
    have hd2 := hgt_diff s hij hj hs
    have st := ends_step h hs hij hj
    have b1 := prod_bnd (a := hgt s j - hgt s i - 1) (b := ld) (by omega) (by omega)
    have b2 := prod_bnd (a := hgt s j - hgt s i + 1) (b := hd) (by omega) (by omega)
    have b3 := prod_bnd (a := lo) (b := (j : Int) - i) (by omega) (by omega)
    have b4 := prod_bnd (a := hi') (b := (j : Int) - i) (by omega) (by omega)
    have st' := ENDS.mk (st.l.mono (Q := fun x y => y < j ∨ (y = j ∧ x < i + 1)) (fun x y _ _ hx => by omega)) (st.h.mono (Q := fun x y => y < j ∨ (y = j ∧ x < i + 1)) (fun x y _ _ hx => by omega))
    obtain ⟨r, hr, hr2⟩ := ih (i + 1) _ _ _ _ (by omega) st'
    have a1 := against_ev (a := hgt s j - hgt s i - 1) (n := (j : Int) - i) (b := lo) (m := ld) (by omega) (by omega) (by omega) (by omega)
    have a2 := against_ev (a := hgt s j - hgt s i + 1) (n := (j : Int) - i) (b := hi') (m := hd) (by omega) (by omega) (by omega) (by omega)
    refine ⟨r, ?_, hr2⟩
    apply Ev.succ
    simp only [impl_slopes.l1, ht_length, if_pos (show (i : Int) < (j : Int) by omega), if_pos (show 0 ≤ (j : Int) by omega), if_pos (show (j : Int) < ((s.size + 1 : Nat) : Int) by omega), if_pos (show 0 ≤ (i : Int) by omega), if_pos (show (i : Int) < ((s.size + 1 : Nat) : Int) by omega), ht_get s hj, ht_get s (show i ≤ s.size by omega), w64 (show (-9223372036854775808) ≤ hgt s j - hgt s i by omega) (by omega), w64 (show (-9223372036854775808) ≤ hgt s j - hgt s i - 1 by omega) (by omega), w64 (show (-9223372036854775808) ≤ hgt s j - hgt s i + 1 by omega) (by omega), w64 (show (-9223372036854775808) ≤ (j : Int) - i by omega) (by omega), w64 (show (-9223372036854775808) ≤ (i : Int) + 1 by omega) (by omega)]
    refine Ev.bind a1 ?_
    by_cases c1 : (hgt s j - hgt s i - 1) * ld > lo * ((j : Int) - i)
    · simp only [if_pos ((cmp_pos _ _).2 c1)]
      refine Ev.bind a2 ?_
      by_cases c2 : (hgt s j - hgt s i + 1) * hd < hi' * ((j : Int) - i)
      · simp only [if_pos ((cmp_neg _ _).2 c2)]
        simp only [if_pos c1, if_pos c2] at hr
        exact hr
      · simp only [if_neg (fun h => c2 ((cmp_neg _ _).1 h))]
        simp only [if_pos c1, if_neg c2] at hr
        exact hr
    · simp only [if_neg (fun h => c1 ((cmp_pos _ _).1 h))]
      refine Ev.bind a2 ?_
      by_cases c2 : (hgt s j - hgt s i + 1) * hd < hi' * ((j : Int) - i)
      · simp only [if_pos ((cmp_neg _ _).2 c2)]
        simp only [if_neg c1, if_pos c2] at hr
        exact hr
      · simp only [if_neg (fun h => c2 ((cmp_neg _ _).1 h))]
        simp only [if_neg c1, if_neg c2] at hr
        exact hr
theorem islo_l0 (s : ByteArray) (hs : s.size ≤ 120) : ∀ (e j : Nat) (lo ld hi hd : Int), e + j = s.size + 1 → ENDS s (-2) (-3) (fun _ y => y < j) lo ld hi hd → ∃ r : Int × Int × Int × Int, Ev (fun k => impl_slopes.l0 k (HT s) ((s.size + 1 : Nat) : Int) j lo ld hi hd) r ∧ ENDS s (-2) (-3) (fun _ _ => True) r.1 r.2.1 r.2.2.1 r.2.2.2 := by
  intro e
  induction e with
  | zero =>
    intro j lo ld hi hd he h
    refine ⟨(lo, ld, hi, hd), ?_, ⟨h.l.mono (fun x y _ _ _ => by omega), h.h.mono (fun x y _ _ _ => by omega)⟩⟩
    apply Ev.succ
    simp only [impl_slopes.l0, if_neg (show ¬ (j : Int) < ((s.size + 1 : Nat) : Int) by omega)]
    exact Ev.now _
  | succ e ih =>
    intro j lo ld hi hd he h
    obtain ⟨r, hr, hr2⟩ := islo_l1 s hs j (by omega) (fun lo ld hi hd h => ih (j + 1) lo ld hi hd (by omega) h) j 0 lo ld hi hd (by omega) ⟨h.l.mono (fun x y _ _ hx => by omega), h.h.mono (fun x y _ _ hx => by omega)⟩
    refine ⟨r, ?_, hr2⟩
    apply Ev.succ
    simp only [impl_slopes.l0, if_pos (show (j : Int) < ((s.size + 1 : Nat) : Int) by omega)]
    exact hr
theorem islopes_ev (s : ByteArray) (h1 : s.size ≤ 120) : ∃ r : Int × Int × Int × Int, Ev (fun k => impl_slopes.f k s) r ∧ ENDS s (-2) (-3) (fun _ _ => True) r.1 r.2.1 r.2.2.1 r.2.2.2 := by
  obtain ⟨r, hr, hr2⟩ := islo_l0 s h1 (s.size + 1) 0 (-2) 1 3 1 (by omega) ⟨MXP.mono (MXP.start (by omega)) (fun x y _ _ hx => by omega), MXP.mono (MXP.start (by omega)) (fun x y _ _ hx => by omega)⟩
  refine ⟨r, ?_, hr2⟩
  unfold impl_slopes.f
  refine Ev.bind (iHT_ev s h1) ?_
  rw [ht_length]
  exact hr

/-! impl.divisor -/
theorem div_l0 : ∀ (n : Nat) (a b : Int), b.natAbs ≤ n → a.natAbs ≤ 9223372036854775807 → b.natAbs ≤ 9223372036854775807 → Ev (fun k => impl_divisor.l0 k a b) (Int.gcd a b : Int) := by
  intro n
  induction n with
  | zero =>
    intro a b hn ha hb
    have e : b = 0 := by omega
    subst e
    apply Ev.succ
    simp only [impl_divisor.l0, if_true]
    refine (Ev.now _).to ?_
    rw [w64 (by omega) (by omega), Int.gcd_zero_right]
    unfold mx
    split <;> omega
  | succ n ih =>
    intro a b hn ha hb
    by_cases hz : b = 0
    · subst hz
      apply Ev.succ
      simp only [impl_divisor.l0, if_true]
      refine (Ev.now _).to ?_
      rw [w64 (by omega) (by omega), Int.gcd_zero_right]
      unfold mx
      split <;> omega
    · apply Ev.succ
      simp only [impl_divisor.l0, if_neg hz]
      have := tmod_abs_lt (a := a) hz
      exact (ih b (a.tmod b) (by omega) hb (by omega)).to (by rw [gcd_step])
theorem divisor_ev (a b : Int) (ha : a.natAbs ≤ 9223372036854775807) (hb : b.natAbs ≤ 9223372036854775807) : Ev (fun k => impl_divisor.f k a b) (Int.gcd a b : Int) := div_l0 b.natAbs a b (Nat.le_refl _) ha hb

/-! impl.worth).lowest -/
theorem tdiv_small {a g : Int} (hg : 0 < g) (ha : -9000000000000000000 ≤ a ∧ a ≤ 9000000000000000000) : wrap64 (a.tdiv g) = a.tdiv g := by
  have := tdiv_range (m := 9000000000000000000) hg ha.1 ha.2 (by omega)
  exact w64 (by omega) (by omega)
theorem lowest_ev {a n : Int} (hn : 0 < n) (ha : -9000000000000000000 ≤ a ∧ a ≤ 9000000000000000000) (hn2 : n ≤ 9000000000000000000) : Ev (fun k => impl_worth_lowest.f k a n) (a.tdiv (Int.gcd a n : Int), n.tdiv (Int.gcd a n : Int)) := by
  have g0 : 0 < Int.gcd a n := Int.gcd_pos_of_ne_zero_right a (by omega)
  unfold impl_worth_lowest.f
  refine Ev.bind (divisor_ev a n (by omega) (by omega)) ?_
  simp only [if_neg (show ¬ (Int.gcd a n : Int) = 0 by omega), tdiv_small (show (0 : Int) < (Int.gcd a n : Int) by omega) ha, tdiv_small (show (0 : Int) < (Int.gcd a n : Int) by omega) (show -9000000000000000000 ≤ n ∧ n ≤ 9000000000000000000 by omega)]
  exact Ev.now _

/-! impl.within -/
theorem within_eq (a b c : Int) : impl_within.f a b c = some (decide (b ≤ a ∧ a ≤ c)) := by
  unfold impl_within.f
  by_cases h : b ≤ a
  · rw [if_pos h]; simp [h]
  · rw [if_neg h]; simp [h]

/-! impl.floor -/
theorem ifloor_eq {a b : Int} (hb : 0 < b) (h1 : -9223372036854775807 ≤ a) (h2 : a ≤ 9223372036854775807) : impl_floor.f a b = some (a / b) := by
  have r1 := tdiv_range hb h1 h2 (by omega)
  have hf := floorB (a := a) hb
  have e1 : wrap64 (a.tdiv b) = a.tdiv b := w64 (by omega) (by omega)
  unfold impl_floor.f
  rw [if_neg (by omega), e1]
  by_cases h : a.tmod b < 0
  · rw [if_pos h] at hf
    rw [if_pos h, w64 (by omega) (by omega), hf]
  · rw [if_neg h] at hf
    rw [if_neg h, hf]

/-! impl.steps -/
theorem iline_l0 (a den shift : Int) (n : Nat) (ha : 0 ≤ a ∧ a ≤ den) (hd : 1 ≤ den ∧ den ≤ 1000) (hs : 0 ≤ shift ∧ shift ≤ den - 1) (hn : n ≤ 999999) : ∀ (d i : Nat), d + i = n → Ev (fun k => impl_steps.l0 k a den shift 98 97 (LINE a den shift i) (n : Int) i) (strOfNums (LINE a den shift n)) := by
  intro d
  induction d with
  | zero =>
    intro i hi
    apply Ev.succ
    simp only [impl_steps.l0, if_neg (show ¬ (i : Int) < (n : Int) by omega)]
    rw [show i = n by omega]
    exact Ev.now _
  | succ d ih =>
    intro i hi
    have p0 := line_small (i := i) ha hd (by omega)
    have p1 := line_small (i := i + 1) ha hd (by omega)
    rw [Int.natCast_succ] at p1
    apply Ev.succ
    simp only [impl_steps.l0, if_pos (show (i : Int) < (n : Int) by omega), w64 (show (-9223372036854775808) ≤ (i : Int) + 1 by omega) (by omega), w64 (show (-9223372036854775808) ≤ ((i : Int) + 1) * a by omega) (by omega), w64 (show (-9223372036854775808) ≤ (i : Int) * a by omega) (by omega), w64 (show (-9223372036854775808) ≤ ((i : Int) + 1) * a + shift by omega) (by omega), w64 (show (-9223372036854775808) ≤ (i : Int) * a + shift by omega) (by omega)]
    simp only [ifloor_eq (show 0 < den by omega) (show -9223372036854775807 ≤ ((i : Int) + 1) * a + shift by omega) (by omega), ifloor_eq (show 0 < den by omega) (show -9223372036854775807 ≤ (i : Int) * a + shift by omega) (by omega), Option.bind_some, LINE_length, if_pos (show i < 140737488355328 by omega)]
    have ih1 := ih (i + 1) (by omega)
    rw [LINE_succ] at ih1
    by_cases h : (((i : Int) + 1) * a + shift) / den > ((i : Int) * a + shift) / den
    · simp only [if_pos h]
      have e : lineAt a den shift i = 98 := by unfold lineAt; rw [if_pos h]
      rw [e] at ih1
      exact ih1
    · simp only [if_neg h]
      have e : lineAt a den shift i = 97 := by unfold lineAt; rw [if_neg h]
      rw [e] at ih1
      exact ih1
theorem steps_ev (a den shift : Int) (n : Nat) (ha : 0 ≤ a ∧ a ≤ den) (hd : 1 ≤ den ∧ den ≤ 1000) (hs : 0 ≤ shift ∧ shift ≤ den - 1) (hn : n ≤ 999999) : Ev (fun k => impl_steps.f k a den shift (n : Int) 98 97) (strOfNums (LINE a den shift n)) := by
  unfold impl_steps.f
  simpa [LINE] using iline_l0 a den shift n ha hd hs hn n 0 (by omega)

/-! impl.LineWord -/
theorem iLW_ev (a den shift n : Int) : Ev (fun k => impl_LineWord.f k a den shift n) (LW a den shift n) := by
  unfold impl_LineWord.f LW
  simp only [within_eq, Option.bind_some]
  by_cases h1 : 1 ≤ den ∧ den ≤ 1000
  · rw [w64 (show (-9223372036854775808) ≤ den - 1 by omega) (by omega)]
    by_cases h2 : 0 ≤ a ∧ a ≤ den
    · by_cases h3 : 0 ≤ shift ∧ shift ≤ den - 1
      · by_cases h4 : 0 ≤ n ∧ n ≤ 120
        · simp only [decide_eq_true h1, decide_eq_true h2, decide_eq_true h3, decide_eq_true h4, if_true, if_pos (show (1 ≤ den ∧ den ≤ 1000) ∧ (0 ≤ a ∧ a ≤ den) ∧ (0 ≤ shift ∧ shift ≤ den - 1) ∧ (0 ≤ n ∧ n ≤ 120) from ⟨h1, h2, h3, h4⟩)]
          obtain ⟨m, rfl⟩ := Int.eq_ofNat_of_zero_le h4.1
          rw [Int.toNat_natCast]
          exact Ev.bind (steps_ev a den shift m h2 h1 h3 (by omega)) (Ev.now _)
        · simp only [decide_eq_true h1, decide_eq_true h2, decide_eq_true h3, decide_eq_false h4, if_true, Bool.false_eq_true, if_false, h4, and_false]
          exact Ev.now _
      · simp only [decide_eq_true h1, decide_eq_true h2, decide_eq_false h3, if_true, Bool.false_eq_true, if_false, h3, and_false, false_and]
        exact Ev.now _
    · simp only [decide_eq_true h1, decide_eq_false h2, if_true, Bool.false_eq_true, if_false, h2, and_false, false_and]
      exact Ev.now _
  · simp only [decide_eq_false h1, Bool.false_eq_true, if_false, h1, false_and]
    exact Ev.now _

/-! spec.l00Src).next -/
theorem rd_byte {c : List Int} (hc : ∀ x ∈ c, 0 ≤ x ∧ x ≤ 255) (i : Int) : 0 ≤ rd c i ∧ rd c i ≤ 255 := by
  unfold rd
  by_cases h : i.toNat < c.length
  · rw [List.getD_eq_getElem?_getD, List.getElem?_eq_getElem h]
    exact hc _ (List.getElem_mem h)
  · rw [List.getD_eq_getElem?_getD, List.getElem?_eq_none (by omega)]
    simp
theorem next_ok (c : List Int) (a s : Int) (hc : ∀ x ∈ c, 0 ≤ x ∧ x ≤ 255) (h0 : 0 ≤ a) (h1 : a ≤ 4611686018427387904) : ∃ v s', spec_l00Src_next.f c a s = some (v, a + 1, s') ∧ 0 ≤ v ∧ v ≤ 255 := by
  have hb := rd_byte hc a
  have e1 : wrap64 (a + 1) = a + 1 := w64 (by omega) (by omega)
  have hv : ∀ X : Int, 0 ≤ wrap64 (Go.bits .and .u64 ((IntKind.u64.wrap X) / 1099511627776) 255) ∧ wrap64 (Go.bits .and .u64 ((IntKind.u64.wrap X) / 1099511627776) 255) ≤ 255 := by
    intro X
    have h := u64_range X
    generalize IntKind.u64.wrap X = Y at h
    rw [bits255 _ (by omega) (by omega), w64 (by omega) (by omega)]
    omega
  unfold spec_l00Src_next.f
  by_cases h : a < (c.length : Int)
  · rw [if_pos h, if_pos h0, e1, if_pos (by omega), w64 (by omega) (by omega)]
    exact ⟨_, _, rfl, hb.1, hb.2⟩
  · rw [if_neg h, e1, if_neg (by omega)]
    exact ⟨_, _, rfl, (hv _).1, (hv _).2⟩

/-! spec.l00Src).pick -/
theorem pick_ok (c : List Int) (a s n : Int) (hc : ∀ x ∈ c, 0 ≤ x ∧ x ≤ 255) (h0 : 0 ≤ a) (h1 : a ≤ 4611686018427387900) (hn : 1 ≤ n) : ∃ v a' s', spec_l00Src_pick.f c a s n = some (v, a', s') ∧ 0 ≤ v ∧ v < n ∧ a ≤ a' ∧ a' ≤ a + 2 := by
  have hm : ∀ x : Int, 0 ≤ x → 2 ≤ n → 0 ≤ x.tmod n ∧ x.tmod n < n := fun x hx h2 => ⟨Int.tmod_nonneg n hx, Int.tmod_lt_of_pos x (by omega)⟩
  unfold spec_l00Src_pick.f
  by_cases h : n ≤ 1
  · rw [if_pos h]
    exact ⟨_, _, _, rfl, by omega, by omega, by omega, by omega⟩
  · rw [if_neg h]
    obtain ⟨v, s1, e, v0, v1⟩ := next_ok c a s hc h0 (by omega)
    rw [e, Option.bind_some]
    by_cases h2 : n > 200
    · obtain ⟨v', s2, e2, v2, v3⟩ := next_ok c (a + 1) s1 hc (by omega) (by omega)
      rw [if_pos h2, e2, Option.bind_some, if_neg (by omega), w64 (show -9223372036854775808 ≤ v * 256 by omega) (by omega), w64 (by omega) (by omega)]
      have := hm (v * 256 + v') (by omega) (by omega)
      exact ⟨_, _, _, rfl, this.1, this.2, by show a ≤ a + 1 + 1; omega, by show a + 1 + 1 ≤ a + 2; omega⟩
    · rw [if_neg h2, if_neg (by omega)]
      have := hm v v0 (by omega)
      exact ⟨_, _, _, rfl, this.1, this.2, by show a ≤ a + 1; omega, by show a + 1 ≤ a + 2; omega⟩

/-! spec.l01Floor -/
theorem tdiv_mul_range {a b m : Int} (hb : 0 < b) (h1 : -m ≤ a) (h2 : a ≤ m) : -m ≤ a.tdiv b * b ∧ a.tdiv b * b ≤ m := by
  have h := ediv_bounds (a := a) hb
  rcases tdiv_cases (a := a) hb with ⟨e, _, h3⟩ | ⟨e, _, h3, h4⟩
  · rw [e]
    rcases h3 with h3 | h3
    · have : 0 ≤ a / b * b := Int.mul_nonneg (Int.ediv_nonneg h3 (by omega)) (by omega)
      omega
    · have := Int.emod_add_mul_ediv a b
      have h5 : b * (a / b) = (a / b) * b := Int.mul_comm _ _
      omega
  · have h5 : (a / b + 1) * b = a / b * b + b := by rw [Int.add_mul, Int.one_mul]
    have h6 : a / b < 0 := Int.ediv_neg_of_neg_of_pos h3 hb
    have h7 : (a / b + 1) * b ≤ 0 * b := Int.mul_le_mul_of_nonneg_right (by omega) (by omega)
    rw [e]
    omega
theorem sfloor_eq {a b : Int} (hb : 0 < b) (h1 : -9223372036854775807 ≤ a) (h2 : a ≤ 9223372036854775807) : spec_l01Floor.f a b = some (a / b) := by
  have r1 := tdiv_range hb h1 h2 (by omega)
  have r2 := tdiv_mul_range hb h1 h2
  have hf := floorA (a := a) hb
  have e1 : wrap64 (a.tdiv b) = a.tdiv b := w64 (by omega) (by omega)
  have e2 : wrap64 (a.tdiv b * b) = a.tdiv b * b := w64 (by omega) (by omega)
  unfold spec_l01Floor.f
  rw [if_neg (by omega), e1, e2]
  by_cases h : a.tdiv b * b > a
  · rw [if_pos h] at hf
    rw [if_pos h, w64 (by omega) (by omega), hf]
  · rw [if_neg h] at hf
    rw [if_neg h, hf]

/-! spec.l07Line -/
theorem sline_l0 (a den shift : Int) (n : Nat) (ha : 0 ≤ a ∧ a ≤ den) (hd : 1 ≤ den ∧ den ≤ 1000) (hs : 0 ≤ shift ∧ shift ≤ den - 1) (hn : n ≤ 999999) : ∀ (d i : Nat), d + i = n → Ev (fun k => spec_l07Line.l0 k a den shift (n : Int) (LINE a den shift i) i) (strOfNums (LINE a den shift n)) := by
  intro d
  induction d with
  | zero =>
    intro i hi
    apply Ev.succ
    simp only [spec_l07Line.l0, if_neg (show ¬ (i : Int) < (n : Int) by omega)]
    rw [show i = n by omega]
    exact Ev.now _
  | succ d ih =>
    intro i hi
    have p0 := line_small (i := i) ha hd (by omega)
    have p1 := line_small (i := i + 1) ha hd (by omega)
    rw [Int.natCast_succ] at p1
    apply Ev.succ
    simp only [spec_l07Line.l0, if_pos (show (i : Int) < (n : Int) by omega), w64 (show (-9223372036854775808) ≤ (i : Int) + 1 by omega) (by omega), w64 (show (-9223372036854775808) ≤ ((i : Int) + 1) * a by omega) (by omega), w64 (show (-9223372036854775808) ≤ (i : Int) * a by omega) (by omega), w64 (show (-9223372036854775808) ≤ ((i : Int) + 1) * a + shift by omega) (by omega), w64 (show (-9223372036854775808) ≤ (i : Int) * a + shift by omega) (by omega)]
    simp only [sfloor_eq (show 0 < den by omega) (show -9223372036854775807 ≤ ((i : Int) + 1) * a + shift by omega) (by omega), sfloor_eq (show 0 < den by omega) (show -9223372036854775807 ≤ (i : Int) * a + shift by omega) (by omega), Option.bind_some, LINE_length, if_pos (show i < 140737488355328 by omega)]
    have ih1 := ih (i + 1) (by omega)
    rw [LINE_succ] at ih1
    by_cases h : (((i : Int) + 1) * a + shift) / den > ((i : Int) * a + shift) / den
    · simp only [if_pos h]
      have e : lineAt a den shift i = 98 := by unfold lineAt; rw [if_pos h]
      rw [e] at ih1
      exact ih1
    · simp only [if_neg h]
      have e : lineAt a den shift i = 97 := by unfold lineAt; rw [if_neg h]
      rw [e] at ih1
      exact ih1
theorem l07Line_ev (a den shift : Int) (n : Nat) (ha : 0 ≤ a ∧ a ≤ den) (hd : 1 ≤ den ∧ den ≤ 1000) (hs : 0 ≤ shift ∧ shift ≤ den - 1) (hn : n ≤ 999999) : Ev (fun k => spec_l07Line.f k a den shift (n : Int)) (strOfNums (LINE a den shift n)) := by
  unfold spec_l07Line.f
  simpa [LINE] using sline_l0 a den shift n ha hd hs hn n 0 (by omega)

/-! the law -/
theorem ilf_l2 (s : ByteArray) (hs : s.size ≤ 120) (den a : Int) (hd : 1 ≤ den ∧ den ≤ 1000) (ha : 0 ≤ a ∧ a ≤ den) (lo ld hi hd' : Int) {R : Int × Int × Int × Bool}
    (hend : Ev (fun k => (impl_LineWord.f k a den (LOW s den a) (s.size : Int)).bind fun bt183 => (if bt183.2 = true then (if bt183.1.toList = s.toList then (some (a, den, LOW s den a, true)) else (impl_LineFor.l1 k s (HT s) den (den + 1) (wrap64 (a + 1)) lo ld hi hd')) else (impl_LineFor.l1 k s (HT s) den (den + 1) (wrap64 (a + 1)) lo ld hi hd'))) R) : ∀ (e i : Nat) (x : Int), e + i = s.size + 1 → lowF s den a e i x = LOW s den a → -1000000 ≤ x → x ≤ 1000000 → Ev (fun k => impl_LineFor.l2 k s (HT s) den a x (den + 1) a (HT s) ((s.size + 1 : Nat) : Int) i lo ld hi hd') R := by
  intro e
  induction e with
  | zero =>
    intro i x he hx x0 x1
    have : x = LOW s den a := hx
    subst this
    apply Ev.succ
    simp only [impl_LineFor.l2, if_neg (show ¬ (i : Int) < ((s.size + 1 : Nat) : Int) by omega)]
    exact hend
  | succ e ih =>
    intro i x he hx x0 x1
    have hg := hgt_range s i
    have p1 := prod_lf (h := hgt s i) (den := den) (by omega) hd
    have p3 := prod_ia (i := (i : Int)) (a := a) (by omega) (by omega)
    have hmx : mx x (sl s den a i) = max x (sl s den a i) := by unfold mx; omega
    have := ih (i + 1) (max x (sl s den a i)) (by omega) hx (by omega) (by unfold sl; omega)
    rw [← hmx] at this
    apply Ev.succ
    simp only [impl_LineFor.l2, if_pos (show (i : Int) < ((s.size + 1 : Nat) : Int) by omega), if_pos (show 0 ≤ (i : Int) by omega), ht_length, ht_get s (show i ≤ s.size by omega), w64 (show (-9223372036854775808) ≤ hgt s i * den by omega) (by omega), w64 (show (-9223372036854775808) ≤ (i : Int) * a by omega) (by omega), w64 (show (-9223372036854775808) ≤ hgt s i * den - (i : Int) * a by omega) (by omega), w64 (show (-9223372036854775808) ≤ (i : Int) + 1 by omega) (by omega)]
    exact this
theorem low_range (s : ByteArray) (hs : s.size ≤ 120) (den a : Int) (hd : 1 ≤ den ∧ den ≤ 1000) (ha : 0 ≤ a ∧ a ≤ den) : 0 ≤ LOW s den a ∧ LOW s den a ≤ 1000000 := by
  refine ⟨(lowF_ge s den a (s.size + 1) 0 0).1, lowF_le s den a 1000000 (s.size + 1) 0 0 (by omega) (fun j _ hj => ?_)⟩
  have hg := hgt_range s j
  have p1 := prod_lf (h := hgt s j) (den := den) (by omega) hd
  have p3 := prod_ia (i := (j : Int)) (a := a) (by omega) (by omega)
  unfold sl; omega
theorem ilf_at (s : ByteArray) (hw : WORD s = true) (den a : Int) (hd : 1 ≤ den ∧ den ≤ 1000) (ha : 0 ≤ a ∧ a ≤ den) {lo ld hi hd' : Int} (m : ENDS s (-2) (-3) (fun _ _ => True) lo ld hi hd') {R : Int × Int × Int × Bool} (hn : Ev (fun k => impl_LineFor.l1 k s (HT s) den (den + 1) (a + 1) lo ld hi hd') R) : Ev (fun k => impl_LineFor.l1 k s (HT s) den (den + 1) a lo ld hi hd') (if LOW s den a ≤ HIGH s den a then (a, den, LOW s den a, true) else R) := by
  obtain ⟨hs, hlet⟩ := word_facts hw
  have hb := ends_bnd m
  have lr := low_range s hs den a hd ha
  have q1 := prod_ia (i := ld) (a := a) (by omega) (by omega)
  have q2 := prod_ia (i := hd') (a := a) (by omega) (by omega)
  have c1 : -1000000 ≤ lo * den ∧ lo * den ≤ 1000000 := by
    have h1 := Int.mul_le_mul_of_nonneg_right hb.1.1 (show 0 ≤ den by omega)
    have h2 := Int.mul_le_mul_of_nonneg_right hb.1.2 (show 0 ≤ den by omega)
    omega
  have c2 : -1000000 ≤ hi * den ∧ hi * den ≤ 1000000 := by
    have h1 := Int.mul_le_mul_of_nonneg_right hb.2.2.1.1 (show 0 ≤ den by omega)
    have h2 := Int.mul_le_mul_of_nonneg_right hb.2.2.1.2 (show 0 ≤ den by omega)
    omega
  have e1 : a * ld = ld * a := Int.mul_comm _ _
  have e2 : a * hd' = hd' * a := Int.mul_comm _ _
  have a1 := against_ev (a := a) (n := den) (b := lo) (m := ld) (by omega) (by omega) (by omega) (by omega)
  have a2 := against_ev (a := a) (n := den) (b := hi) (m := hd') (by omega) (by omega) (by omega) (by omega)
  have skip : ¬ LOW s den a ≤ HIGH s den a → Ev (fun k => impl_LineFor.j2 k s (HT s) den a (den + 1) a true lo ld hi hd') (if LOW s den a ≤ HIGH s den a then (a, den, LOW s den a, true) else R) := by
    intro hc
    rw [if_neg hc]
    apply Ev.succ
    simp only [impl_LineFor.j2, if_true, w64 (show (-9223372036854775808) ≤ a + 1 by omega) (by omega)]
    exact hn
  apply Ev.succ
  simp only [impl_LineFor.l1, if_pos (show a < den + 1 by omega)]
  refine Ev.bind a1 ?_
  by_cases h1 : a * ld ≤ lo * den
  · simp only [if_pos ((cmp_nonpos _ _).2 h1)]
    exact skip (fun hc => by have := (fits_between hs hd.1 ha (fits_low hc) m).1; omega)
  · simp only [if_neg (fun h => h1 ((cmp_nonpos _ _).1 h))]
    refine Ev.bind a2 ?_
    by_cases h2 : a * hd' ≥ hi * den
    · simp only [decide_eq_true ((cmp_nonneg _ _).2 h2)]
      exact skip (fun hc => by have := (fits_between hs hd.1 ha (fits_low hc) m).2; omega)
    · simp only [decide_eq_false (fun h => h2 ((cmp_nonneg _ _).1 h))]
      apply Ev.succ
      simp only [impl_LineFor.j2, Bool.false_eq_true, if_false, ht_length]
      refine ilf_l2 s hs den a hd ha lo ld hi hd' ?_ (s.size + 1) 0 0 (by omega) rfl (by omega) (by omega)
      refine Ev.bind (iLW_ev a den (LOW s den a) (s.size : Int)) ?_
      have hn' : Ev (fun k => impl_LineFor.l1 k s (HT s) den (den + 1) (wrap64 (a + 1)) lo ld hi hd') R := by
        rw [w64 (show (-9223372036854775808) ≤ a + 1 by omega) (by omega)]
        exact hn
      unfold LW
      by_cases c : LOW s den a ≤ den - 1
      · rw [if_pos ⟨hd, ha, ⟨lr.1, c⟩, by omega⟩]
        simp only [if_true, Int.toNat_natCast]
        have lw := line_word (s := s) (den := den) (a := a) (x := LOW s den a) hlet (by omega) ha lr.1 c
        have sw := str_word (s := s) (den := den) (a := a) (x := LOW s den a) hlet
        by_cases hc : LOW s den a ≤ HIGH s den a
        · have hf := fits_low hc
          have := sw.2 (lw.2 (fun i hi => fits_floor (by omega) hf i hi))
          simp only [if_pos this, if_pos hc]
          exact Ev.now _
        · have : ¬ (strOfNums (LINE a den (LOW s den a) s.size)).toList = s.toList := fun h => hc (low_fits (floor_fits (by omega) lr.1 c (lw.1 (sw.1 h))))
          simp only [if_neg this, if_neg hc]
          exact hn'
      · rw [if_neg (fun h => c h.2.2.1.2)]
        have hc : ¬ LOW s den a ≤ HIGH s den a := fun hc => c (fits_low hc).2.1
        simp only [Bool.false_eq_true, if_false, if_neg hc]
        exact hn'
theorem slopes_even {s : ByteArray} (hw : WORD s = true) (h1 : 1 ≤ s.size) (hB : BAL s = true) : ∃ p q r t : Int, Ev (fun k => impl_SlopesOf.f k s) (p, q, r, t, true) ∧ (∀ den a x : Int, 1 ≤ den ∧ den ≤ 1000 → 0 ≤ a ∧ a ≤ den → FITS s den a x → p * den < a * q ∧ a * t < r * den) ∧ (-200 ≤ p ∧ p ≤ 200) ∧ (1 ≤ q ∧ q ≤ 200) ∧ (-200 ≤ r ∧ r ≤ 200) ∧ (1 ≤ t ∧ t ≤ 200) := by
  have hs := (word_facts hw).1
  obtain ⟨⟨lo, ld, hi, hd'⟩, e2, m⟩ := islopes_ev s hs
  simp only at m
  have b := ends_bnd m
  have ee := even_ends (bal_even hB) h1 hs m
  have q3 := prod_bnd (a := lo) (b := hd') (by omega) (by omega)
  have q4 := prod_bnd (a := hi) (b := ld) (by omega) (by omega)
  have ag := against_ev (a := lo) (n := ld) (b := hi) (m := hd') (by omega) (by omega) (by omega) (by omega)
  have g0 : 0 < Int.gcd lo ld := Int.gcd_pos_of_ne_zero_right lo (by omega)
  have g1 : 0 < Int.gcd hi hd' := Int.gcd_pos_of_ne_zero_right hi (by omega)
  have hlt := ee.1
  obtain ⟨p, hp⟩ := Int.gcd_dvd_left lo ld
  obtain ⟨q, hq⟩ := Int.gcd_dvd_right lo ld
  obtain ⟨r, hr⟩ := Int.gcd_dvd_left hi hd'
  obtain ⟨t, ht⟩ := Int.gcd_dvd_right hi hd'
  have ep : lo.tdiv (Int.gcd lo ld : Int) = p := by
    have : ((Int.gcd lo ld : Int) * p).tdiv (Int.gcd lo ld : Int) = p := Int.mul_tdiv_cancel_left _ (by omega)
    rwa [← hp] at this
  have eq' : ld.tdiv (Int.gcd lo ld : Int) = q := by
    have : ((Int.gcd lo ld : Int) * q).tdiv (Int.gcd lo ld : Int) = q := Int.mul_tdiv_cancel_left _ (by omega)
    rwa [← hq] at this
  have er : hi.tdiv (Int.gcd hi hd' : Int) = r := by
    have : ((Int.gcd hi hd' : Int) * r).tdiv (Int.gcd hi hd' : Int) = r := Int.mul_tdiv_cancel_left _ (by omega)
    rwa [← hr] at this
  have et : hd'.tdiv (Int.gcd hi hd' : Int) = t := by
    have : ((Int.gcd hi hd' : Int) * t).tdiv (Int.gcd hi hd' : Int) = t := Int.mul_tdiv_cancel_left _ (by omega)
    rwa [← ht] at this
  have bp := tdiv_range (a := lo) (b := (Int.gcd lo ld : Int)) (m := 200) (by omega) (by omega) (by omega) (by omega)
  have bq := tdiv_range (a := ld) (b := (Int.gcd lo ld : Int)) (m := 200) (by omega) (by omega) (by omega) (by omega)
  have br := tdiv_range (a := hi) (b := (Int.gcd hi hd' : Int)) (m := 200) (by omega) (by omega) (by omega) (by omega)
  have bt' := tdiv_range (a := hd') (b := (Int.gcd hi hd' : Int)) (m := 200) (by omega) (by omega) (by omega) (by omega)
  rw [ep] at bp
  rw [eq'] at bq
  rw [er] at br
  rw [et] at bt'
  have low := lowest_ev (a := lo) (n := ld) (by omega) (by omega) (by omega)
  have high := lowest_ev (a := hi) (n := hd') (by omega) (by omega) (by omega)
  rw [ep, eq'] at low
  rw [er, et] at high
  have pq : 0 ≤ q := by
    by_cases c : 0 ≤ q
    · exact c
    · have := Int.mul_le_mul_of_nonneg_left (show q ≤ 0 by omega) (show 0 ≤ (Int.gcd lo ld : Int) by omega)
      omega
  have pt : 0 ≤ t := by
    by_cases c : 0 ≤ t
    · exact c
    · have := Int.mul_le_mul_of_nonneg_left (show t ≤ 0 by omega) (show 0 ≤ (Int.gcd hi hd' : Int) by omega)
      omega
  have pq' : 1 ≤ q := by
    by_cases c : q = 0
    · rw [c, Int.mul_zero] at hq; omega
    · omega
  have pt' : 1 ≤ t := by
    by_cases c : t = 0
    · rw [c, Int.mul_zero] at ht; omega
    · omega
  refine ⟨p, q, r, t, ?_, fun den a x hd ha hf => ?_, bp, ⟨pq', bq.2⟩, br, ⟨pt', bt'.2⟩⟩
  · unfold impl_SlopesOf.f
    have h0 : ((s.size : Int) == 0) = false := beq_eq_false_iff_ne.2 (by omega)
    simp only [iWORD_eq, Option.bind_some, hw, if_true, data_nil, h0]
    apply Ev.succ
    simp only [impl_SlopesOf.j0, Bool.false_eq_true, if_false]
    refine Ev.bind e2 (Ev.bind ag ?_)
    have hneg : ¬ cmpOf (lo * hd') (hi * ld) ≥ 0 := fun h => by
      have := (cmp_nonneg _ _).1 h
      omega
    simp only [if_neg hneg]
    exact Ev.bind low (Ev.bind high (Ev.now _))
  · have bw := fits_between hs hd.1 ha hf m
    constructor
    · have k1 : (Int.gcd lo ld : Int) * (p * den) < (Int.gcd lo ld : Int) * (a * q) := by
        have t1 : lo * den = (Int.gcd lo ld : Int) * (p * den) := by
          have : (Int.gcd lo ld : Int) * p * den = (Int.gcd lo ld : Int) * (p * den) := Int.mul_assoc _ _ _
          rw [← this, ← hp]
        have t2 : a * ld = (Int.gcd lo ld : Int) * (a * q) := by
          have : (Int.gcd lo ld : Int) * (a * q) = a * ((Int.gcd lo ld : Int) * q) := Int.mul_left_comm _ _ _
          rw [this, ← hq]
        omega
      exact Int.lt_of_mul_lt_mul_left k1 (by omega)
    · have k1 : (Int.gcd hi hd' : Int) * (a * t) < (Int.gcd hi hd' : Int) * (r * den) := by
        have t1 : hi * den = (Int.gcd hi hd' : Int) * (r * den) := by
          have : (Int.gcd hi hd' : Int) * r * den = (Int.gcd hi hd' : Int) * (r * den) := Int.mul_assoc _ _ _
          rw [← this, ← hr]
        have t2 : a * hd' = (Int.gcd hi hd' : Int) * (a * t) := by
          have : (Int.gcd hi hd' : Int) * (a * t) = a * ((Int.gcd hi hd' : Int) * t) := Int.mul_left_comm _ _ _
          rw [this, ← ht]
        omega
      exact Int.lt_of_mul_lt_mul_left k1 (by omega)
/-- Where no slope is possible. -/
theorem slopes_uneven {s : ByteArray} (hw : WORD s = true) (h1 : 1 ≤ s.size) (hB : BAL s = false) : Ev (fun k => impl_SlopesOf.f k s) (0, 0, 0, 0, false) := by
  have hs := (word_facts hw).1
  obtain ⟨⟨lo, ld, hi, hd'⟩, e2, m⟩ := islopes_ev s hs
  simp only at m
  have b := ends_bnd m
  have q3 := prod_bnd (a := lo) (b := hd') (by omega) (by omega)
  have q4 := prod_bnd (a := hi) (b := ld) (by omega) (by omega)
  have ag := against_ev (a := lo) (n := ld) (b := hi) (m := hd') (by omega) (by omega) (by omega) (by omega)
  have hge : ¬ lo * hd' < hi * ld := by
    intro c
    have t1 : lo * (ld + hd') = lo * ld + lo * hd' := Int.mul_add _ _ _
    have t2 : (lo + hi) * ld = lo * ld + hi * ld := Int.add_mul _ _ _
    have t3 : (lo + hi) * hd' = lo * hd' + hi * hd' := Int.add_mul _ _ _
    have t4 : hi * (ld + hd') = hi * ld + hi * hd' := Int.mul_add _ _ _
    have := fits_bal (show 1 ≤ ld + hd' by omega) (fits_low (between_fits hs (den := ld + hd') (a := lo + hi) (by omega) m (by omega) (by omega)))
    rw [hB] at this
    cases this
  unfold impl_SlopesOf.f
  have h0 : ((s.size : Int) == 0) = false := beq_eq_false_iff_ne.2 (by omega)
  simp only [iWORD_eq, Option.bind_some, hw, if_true, data_nil, h0]
  apply Ev.succ
  simp only [impl_SlopesOf.j0, Bool.false_eq_true, if_false]
  refine Ev.bind e2 (Ev.bind ag ?_)
  simp only [if_pos ((cmp_nonneg (lo * hd') (hi * ld)).2 (by omega))]
  exact Ev.now _
/-- What a search for a line has found. -/
def FOUND (s : ByteArray) (r : Int × Int × Int × Bool) : Prop := ∃ den a : Int, (1 ≤ den ∧ den ≤ 1000) ∧ (0 ≤ a ∧ a ≤ den) ∧ LOW s den a ≤ HIGH s den a ∧ r = (a, den, LOW s den a, true)
theorem ilfB_l1 (s : ByteArray) (hw : WORD s = true) (den : Int) (hd : 1 ≤ den ∧ den ≤ 1000) {lo ld hi hd' : Int} (m : ENDS s (-2) (-3) (fun _ _ => True) lo ld hi hd') {R : Int × Int × Int × Bool} (h2 : Ev (fun k => impl_LineFor.l0 k s (HT s) (den + 1) lo ld hi hd') R) :
    ∀ (e : Nat) (a : Int), 0 ≤ a → (e : Int) + a = den + 1 → ∃ r, Ev (fun k => impl_LineFor.l1 k s (HT s) den (den + 1) a lo ld hi hd') r ∧ ((FOUND s R ∨ ∃ b, a ≤ b ∧ b ≤ den ∧ LOW s den b ≤ HIGH s den b) → FOUND s r) := by
  intro e
  induction e with
  | zero =>
    intro a ha he
    refine ⟨R, ?_, fun h => ?_⟩
    · apply Ev.succ
      simp only [impl_LineFor.l1, if_neg (show ¬ a < den + 1 by omega), w64 (show (-9223372036854775808) ≤ den + 1 by omega) (by omega)]
      exact h2
    · rcases h with h | ⟨b, h3, h4, _⟩
      · exact h
      · omega
  | succ e ih =>
    intro a ha he
    obtain ⟨r, r2, r3⟩ := ih (a + 1) (by omega) (by omega)
    refine ⟨_, ilf_at s hw den a hd (by omega) m r2, fun h => ?_⟩
    by_cases c : LOW s den a ≤ HIGH s den a
    · rw [if_pos c]
      exact ⟨den, a, hd, by omega, c, rfl⟩
    · rw [if_neg c]
      refine r3 ?_
      rcases h with h | ⟨b, h3, h4, h5⟩
      · exact .inl h
      · refine .inr ⟨b, ?_, h4, h5⟩
        by_cases e : b = a
        · subst e; exact absurd h5 c
        · omega
theorem ilfB_l0 (s : ByteArray) (hw : WORD s = true) {lo ld hi hd' : Int} (m : ENDS s (-2) (-3) (fun _ _ => True) lo ld hi hd') : ∀ (e : Nat) (den : Int), 1 ≤ den → (e : Int) + den = 1001 →
    ∃ r, Ev (fun k => impl_LineFor.l0 k s (HT s) den lo ld hi hd') r ∧ ((∃ d b, den ≤ d ∧ d ≤ 1000 ∧ 0 ≤ b ∧ b ≤ d ∧ LOW s d b ≤ HIGH s d b) → FOUND s r) := by
  intro e
  induction e with
  | zero =>
    intro den h he
    refine ⟨(0, 0, 0, false), ?_, fun ⟨d, b, h1, h2, _⟩ => by omega⟩
    apply Ev.succ
    simp only [impl_LineFor.l0, if_neg (show ¬ den ≤ 1000 by omega)]
    exact Ev.now _
  | succ e ih =>
    intro den h he
    obtain ⟨R, r2, r3⟩ := ih (den + 1) (by omega) (by omega)
    obtain ⟨r, q2, q3⟩ := ilfB_l1 s hw den (by omega) m r2 (den + 1).toNat 0 (by omega) (by omega)
    refine ⟨r, ?_, fun ⟨d, b, h1, h2, h3, h4, h5⟩ => q3 ?_⟩
    · apply Ev.succ
      simp only [impl_LineFor.l0, if_pos (show den ≤ 1000 by omega), w64 (show (-9223372036854775808) ≤ den + 1 by omega) (by omega)]
      exact q2
    · by_cases c : d = den
      · subst c; exact .inr ⟨b, h3, h4, h5⟩
      · exact .inl (r3 ⟨d, b, by omega, h2, h3, h4, h5⟩)
theorem linefor_bal {s : ByteArray} (hw : WORD s = true) (h1 : 1 ≤ s.size) (hB : BAL s = true) : ∃ r, Ev (fun k => impl_LineFor.f k s) r ∧ FOUND s r := by
  have hs := (word_facts hw).1
  obtain ⟨⟨lo, ld, hi, hd'⟩, e2, m⟩ := islopes_ev s hs
  obtain ⟨r, r1, r2⟩ := ilfB_l0 s hw m 1000 1 (by omega) (by omega)
  obtain ⟨den, a, k1, k2, k3, k4, k5⟩ := even_line (bal_even hB) h1 hs m
  refine ⟨r, ?_, r2 ⟨den, a, k1, k2, k3, k4, k5⟩⟩
  unfold impl_LineFor.f
  refine Ev.bind (iWBAL_ev s) ?_
  simp only [WBAL, hw, hB, Bool.and_true, if_true]
  exact Ev.bind e2 (Ev.bind (iHT_ev s hs) r1)
theorem linefor_unbal {s : ByteArray} (hw : WORD s = true) (hB : BAL s = false) : Ev (fun k => impl_LineFor.f k s) (0, 0, 0, false) := by
  unfold impl_LineFor.f
  refine Ev.bind (iWBAL_ev s) ?_
  simp only [WBAL, hw, hB, Bool.and_false, Bool.false_eq_true, if_false]
  exact Ev.now _
/-- A word out of its letters' numbers. -/
theorem word_nums (y : List Int) (hy : ∀ x ∈ y, x = 97 ∨ x = 98) (hn : y.length ≤ 120) : (strOfNums y).size = y.length ∧ WORD (strOfNums y) = true := by
  have hsz : (strOfNums y).size = y.length := strOf_inj_len y
  have hx : (strOfNums y).data.toList = y.map fun n => UInt8.ofNat n.toNat := by simp [strOfNums]
  refine ⟨hsz, ?_⟩
  simp only [WORD, LET, Bool.and_eq_true, List.all_eq_true, List.mem_range, decide_eq_true_eq]
  refine ⟨fun i hi => ?_, by omega⟩
  rw [bt_nat _ hi]
  have h1 : (strOfNums y).data.toList[i]'(by simpa using hi) = (y.map fun n => UInt8.ofNat n.toNat)[i]'(by rw [List.length_map]; omega) := by simp only [hx]
  rw [h1, List.getElem_map, UInt8.toNat_ofNat']
  rcases hy _ (List.getElem_mem (show i < y.length by omega)) with e | e <;> rw [e]
  · left; rfl
  · right; rfl
theorem bytes_line (a den shift : Int) (n : Nat) : (bytesOf (strOfNums (LINE a den shift n))).length = n ∧ ∀ x ∈ bytesOf (strOfNums (LINE a den shift n)), x = 97 ∨ x = 98 := by
  have hx : (strOfNums (LINE a den shift n)).data.toList = (LINE a den shift n).map fun n => UInt8.ofNat n.toNat := by simp [strOfNums]
  have hl : ∀ i, lineAt a den shift i = 97 ∨ lineAt a den shift i = 98 := fun i => by unfold lineAt; split <;> simp
  refine ⟨by rw [bytesOf, List.length_map, hx, List.length_map, LINE_length], fun x h => ?_⟩
  rw [bytesOf, hx] at h
  simp only [List.mem_map, LINE, List.mem_range] at h
  obtain ⟨_, ⟨_, ⟨i, _, rfl⟩, rfl⟩, rfl⟩ := h
  rw [UInt8.toNat_ofNat']
  rcases hl i with e | e <;> rw [e]
  · left; rfl
  · right; rfl
set_option maxRecDepth 100000 in
theorem b10word_ok (c : List Int) (hc : ∀ x ∈ c, 0 ≤ x ∧ x ≤ 255) : ∃ s : ByteArray, Ev (fun k => spec_B10Word.f k c) s ∧ WORD s = true ∧ 1 ≤ s.size ∧ s.size ≤ 23 := by
  obtain ⟨v1, a1, s1, p1, x1, y1, u1, z1⟩ := pick_ok c 0 0 20 hc (by omega) (by omega) (by omega)
  obtain ⟨v2, a2, s2, p2, x2, y2, u2, z2⟩ := pick_ok c a1 s1 (1 + v1 + 1) hc (by omega) (by omega) (by omega)
  obtain ⟨v3, a3, s3, p3, x3, y3, u3, z3⟩ := pick_ok c a2 s2 (1 + v1) hc (by omega) (by omega) (by omega)
  obtain ⟨v4, a4, s4, p4, x4, y4, u4, z4⟩ := pick_ok c a3 s3 23 hc (by omega) (by omega) (by omega)
  obtain ⟨v5, a5, s5, p5, x5, y5, u5, z5⟩ := pick_ok c a4 s4 3 hc (by omega) (by omega) (by omega)
  obtain ⟨n, hn⟩ := Int.eq_ofNat_of_zero_le (show 0 ≤ 1 + v4 by omega)
  have hl := l07Line_ev v2 (1 + v1) v3 n (by omega) (by omega) (by omega) (by omega)
  obtain ⟨b1, b2⟩ := bytes_line v2 (1 + v1) v3 n
  obtain ⟨v6, a6, s6, p6, x6, y6, u6, z6⟩ := pick_ok c a5 s5 (n : Int) hc (by omega) (by omega) (by omega)
  obtain ⟨v7, a7, s7, p7, x7, y7, u7, z7⟩ := pick_ok c a6 s6 2 hc (by omega) (by omega) (by omega)
  have one : spec_l00Src_one.f c a4 s4 3 = some ((v5 == 0), a5, s5) := by unfold spec_l00Src_one.f; rw [p5]; rfl
  have start : ∀ (s : ByteArray), Ev (fun k => (spec_l07Line.f k v2 (1 + v1) v3 (n : Int)).bind fun t226 => ((spec_l00Src_one.f c a4 s4 3).bind fun bt230 => (if bt230.1 = true then ((spec_l00Src_pick.f c bt230.2.1 bt230.2.2 ((bytesOf t226).length : Int)).bind fun bt233 => ((spec_l00Src_pick.f c bt233.2.1 bt233.2.2 2).bind fun bt236 => (if 0 ≤ bt233.1 then (if bt233.1 < ((bytesOf t226).length : Int) then (some (strOfNums ((bytesOf t226).set (bt233.1 : Int).toNat ((wrap64 (97 + bt236.1)) % 256)))) else (none)) else (none)))) else (some (strOfNums (bytesOf t226)))))) s → Ev (fun k => spec_B10Word.f k c) s := by
    intro s h
    unfold spec_B10Word.f
    simp only [spec_l00From.f, Option.bind_some, p1, w64 (show (-9223372036854775808) ≤ 1 + v1 by omega) (by omega), w64 (show (-9223372036854775808) ≤ 1 + v1 + 1 by omega) (by omega), p2, p3, p4, hn, w64 (show (-9223372036854775808) ≤ (n : Int) by omega) (by omega)]
    exact h
  by_cases c5 : v5 = 0
  · have hset : ∀ x ∈ (bytesOf (strOfNums (LINE v2 (1 + v1) v3 n))).set v6.toNat ((97 + v7) % 256), x = 97 ∨ x = 98 := by
      intro x hx
      rcases List.mem_or_eq_of_mem_set hx with h | h
      · exact b2 x h
      · omega
    have w := word_nums _ hset (by rw [List.length_set, b1]; omega)
    rw [List.length_set, b1] at w
    refine ⟨_, start _ (Ev.bind hl ?_), w.2, by omega, by omega⟩
    simp only [Option.bind_some, one, c5, beq_self_eq_true, if_true, b1, p6, p7, if_pos x6, if_pos y6, w64 (show (-9223372036854775808) ≤ 97 + v7 by omega) (by omega)]
    exact Ev.now _
  · have w := word_nums _ b2 (by rw [b1]; omega)
    rw [b1] at w
    refine ⟨_, start _ (Ev.bind hl ?_), w.2, by omega, by omega⟩
    simp only [Option.bind_some, one, show (v5 == 0) = false from beq_eq_false_iff_ne.2 c5, Bool.false_eq_true, if_false]
    exact Ev.now _
/-- Two parts of n letters rise alike, but for 1. -/
def PB (s : ByteArray) (n i k : Nat) : Bool := decide (-1 ≤ rise s n i - rise s n k ∧ rise s n i - rise s n k ≤ 1)
def own2 (s : ByteArray) (n i : Nat) : Nat → Nat → Bool → Bool
  | 0, _, o => o
  | e + 1, k, o => own2 s n i e (k + 1) (o && PB s n i k)
def own1 (s : ByteArray) (n : Nat) : Nat → Nat → Bool → Bool
  | 0, _, o => o
  | e + 1, i, o => own1 s n e (i + 1) (own2 s n i i 0 o)
def own0 (s : ByteArray) : Nat → Nat → Bool → Bool
  | 0, _, o => o
  | e + 1, n, o => own0 s e (n + 1) (own1 s n (s.size + 1 - n) 0 o)
theorem own2_iff (s : ByteArray) (n i : Nat) : ∀ (e k : Nat) (o : Bool), own2 s n i e k o = true ↔ o = true ∧ ∀ j, k ≤ j → j < k + e → PB s n i j = true
  | 0, k, o => by unfold own2; exact ⟨fun h => ⟨h, fun j h1 h2 => by omega⟩, fun h => h.1⟩
  | e + 1, k, o => by
    unfold own2
    rw [own2_iff s n i e (k + 1), Bool.and_eq_true]
    constructor
    · rintro ⟨⟨h1, h2⟩, h3⟩
      refine ⟨h1, fun j a b => ?_⟩
      by_cases c : j = k
      · subst c; exact h2
      · exact h3 j (by omega) (by omega)
    · rintro ⟨h1, h2⟩
      exact ⟨⟨h1, h2 k (by omega) (by omega)⟩, fun j a b => h2 j (by omega) (by omega)⟩
theorem own1_iff (s : ByteArray) (n : Nat) : ∀ (e i : Nat) (o : Bool), own1 s n e i o = true ↔ o = true ∧ ∀ j, i ≤ j → j < i + e → ∀ k, k < j → PB s n j k = true
  | 0, i, o => by unfold own1; exact ⟨fun h => ⟨h, fun j h1 h2 => by omega⟩, fun h => h.1⟩
  | e + 1, i, o => by
    unfold own1
    rw [own1_iff s n e (i + 1), own2_iff]
    constructor
    · rintro ⟨⟨h1, h2⟩, h3⟩
      refine ⟨h1, fun j a b k hk => ?_⟩
      by_cases c : j = i
      · subst c; exact h2 k (by omega) (by omega)
      · exact h3 j (by omega) (by omega) k hk
    · rintro ⟨h1, h2⟩
      exact ⟨⟨h1, fun k a b => h2 i (by omega) (by omega) k (by omega)⟩, fun j a b => h2 j (by omega) (by omega)⟩
theorem own0_iff (s : ByteArray) : ∀ (e n : Nat) (o : Bool), own0 s e n o = true ↔ o = true ∧ ∀ m, n ≤ m → m < n + e → ∀ j, j < s.size + 1 - m → ∀ k, k < j → PB s m j k = true
  | 0, n, o => by unfold own0; exact ⟨fun h => ⟨h, fun j h1 h2 => by omega⟩, fun h => h.1⟩
  | e + 1, n, o => by
    unfold own0
    rw [own0_iff s e (n + 1), own1_iff]
    constructor
    · rintro ⟨⟨h1, h2⟩, h3⟩
      refine ⟨h1, fun m a b j hj k hk => ?_⟩
      by_cases c : m = n
      · subst c; exact h2 j (by omega) (by omega) k hk
      · exact h3 m (by omega) (by omega) j hj k hk
    · rintro ⟨h1, h2⟩
      exact ⟨⟨h1, fun j a b k hk => h2 n (by omega) (by omega) j (by omega) k hk⟩, fun m a b => h2 m (by omega) (by omega)⟩
theorem own_bal (s : ByteArray) : own0 s s.size 1 true = BAL s := by
  rw [Bool.eq_iff_iff, own0_iff]
  constructor
  · rintro ⟨_, h⟩
    refine even_bal fun n i j hi hj => ?_
    by_cases c0 : n = 0
    · subst c0; rw [rise_zero, rise_zero]; omega
    · rcases Nat.lt_trichotomy i j with c | c | c
      · have := h n (by omega) (by omega) j (by omega) i c
        simp only [PB, decide_eq_true_eq] at this
        omega
      · subst c; omega
      · have := h n (by omega) (by omega) i (by omega) j c
        simp only [PB, decide_eq_true_eq] at this
        omega
  · intro h
    refine ⟨rfl, fun m a b j hj k hk => ?_⟩
    have h1 := bal_even h m j k (by omega) (by omega)
    have h2 := bal_even h m k j (by omega) (by omega)
    simp only [PB, decide_eq_true_eq]
    omega
theorem abs_le (x : Int) (h0 : -1000 ≤ x) (h1 : x ≤ 1000) : ∃ t, laws_b10Abs.f x = some t ∧ (decide (t ≤ 1)) = decide (-1 ≤ x ∧ x ≤ 1) := by
  unfold laws_b10Abs.f
  by_cases c : x < 0
  · rw [if_pos c, w64 (by omega) (by omega)]
    refine ⟨_, rfl, ?_⟩
    rw [Bool.eq_iff_iff, decide_eq_true_iff, decide_eq_true_iff]; omega
  · rw [if_neg c]
    refine ⟨_, rfl, ?_⟩
    rw [Bool.eq_iff_iff, decide_eq_true_iff, decide_eq_true_iff]; omega
section
variable (s : ByteArray) (hs : s.size ≤ 23) (a b c d x den shift : Int) (bal : Bool)
theorem fb_l2 (hs : s.size ≤ 23) (n i : Nat) (hn : 1 ≤ n) (hi : i + n ≤ s.size) {R : Bool → Bool} (hend : ∀ o, Ev (fun k => laws_FnBalanced.l1 k s a b c d x den shift (HT s) bal o n ((i : Int) + 1)) (R o)) :
    ∀ (e j : Nat) (o : Bool), e + j = i → Ev (fun k => laws_FnBalanced.l2 k s a b c d x den shift (HT s) bal o n i j) (R (own2 s n i e j o)) := by
  intro e
  induction e with
  | zero =>
    intro j o hj
    apply Ev.succ
    simp only [laws_FnBalanced.l2, if_neg (show ¬ (j : Int) < (i : Int) by omega), w64 (show (-9223372036854775808) ≤ (i : Int) + 1 by omega) (by omega)]
    exact hend o
  | succ e ih =>
    intro j o hj
    apply Ev.succ
    simp only [laws_FnBalanced.l2, if_pos (show (j : Int) < (i : Int) by omega), w64 (show (-9223372036854775808) ≤ (j : Int) + 1 by omega) (by omega)]
    cases o with
    | false =>
      simp only [Bool.false_eq_true, if_false]
      have := ih (j + 1) false (by omega)
      unfold own2
      simpa using this
    | true =>
      have r1 := hgt_range s (i + n)
      have r2 := hgt_range s i
      have r3 := hgt_range s (j + n)
      have r4 := hgt_range s j
      have g1 := ht_get s (show i + n ≤ s.size by omega)
      have g2 := ht_get s (show i ≤ s.size by omega)
      have g3 := ht_get s (show j + n ≤ s.size by omega)
      have g4 := ht_get s (show j ≤ s.size by omega)
      rw [Int.natCast_add] at g1 g3
      obtain ⟨t, ht, ht2⟩ := abs_le (hgt s (i + n) - hgt s i - hgt s (j + n) + hgt s j) (by omega) (by omega)
      simp only [if_true, w64 (show (-9223372036854775808) ≤ (i : Int) + n by omega) (by omega), w64 (show (-9223372036854775808) ≤ (j : Int) + n by omega) (by omega), ht_length, if_pos (show 0 ≤ (i : Int) + n by omega), if_pos (show (i : Int) + n < ((s.size + 1 : Nat) : Int) by omega), if_pos (show 0 ≤ (i : Int) by omega), if_pos (show (i : Int) < ((s.size + 1 : Nat) : Int) by omega), if_pos (show 0 ≤ (j : Int) + n by omega), if_pos (show (j : Int) + n < ((s.size + 1 : Nat) : Int) by omega), if_pos (show 0 ≤ (j : Int) by omega), if_pos (show (j : Int) < ((s.size + 1 : Nat) : Int) by omega), g1, g2, g3, g4, w64 (show (-9223372036854775808) ≤ hgt s (i + n) - hgt s i by omega) (by omega), w64 (show (-9223372036854775808) ≤ hgt s (i + n) - hgt s i - hgt s (j + n) by omega) (by omega), w64 (show (-9223372036854775808) ≤ hgt s (i + n) - hgt s i - hgt s (j + n) + hgt s j by omega) (by omega), ht, Option.bind_some, ht2]
      have := ih (j + 1) (true && PB s n i j) (by omega)
      have e2 : PB s n i j = decide (-1 ≤ hgt s (i + n) - hgt s i - hgt s (j + n) + hgt s j ∧ hgt s (i + n) - hgt s i - hgt s (j + n) + hgt s j ≤ 1) := by
        unfold PB rise
        rw [Bool.eq_iff_iff, decide_eq_true_iff, decide_eq_true_iff]; omega
      rw [Bool.true_and, e2] at this
      unfold own2
      rw [Bool.true_and, e2]
      exact this
theorem fb_l1 (hs : s.size ≤ 23) (n : Nat) (hn : 1 ≤ n) (hn2 : n ≤ s.size) {R : Bool → Bool} (hend : ∀ o, Ev (fun k => laws_FnBalanced.l0 k s a b c d x den shift (HT s) bal o ((n : Int) + 1)) (R o)) :
    ∀ (e i : Nat) (o : Bool), e + i = s.size + 1 - n → Ev (fun k => laws_FnBalanced.l1 k s a b c d x den shift (HT s) bal o n i) (R (own1 s n e i o)) := by
  intro e
  induction e with
  | zero =>
    intro i o hi
    apply Ev.succ
    simp only [laws_FnBalanced.l1, w64 (show (-9223372036854775808) ≤ (i : Int) + n by omega) (by omega), if_neg (show ¬ (i : Int) + n ≤ (s.size : Int) by omega), w64 (show (-9223372036854775808) ≤ (n : Int) + 1 by omega) (by omega)]
    exact hend o
  | succ e ih =>
    intro i o hi
    apply Ev.succ
    simp only [laws_FnBalanced.l1, w64 (show (-9223372036854775808) ≤ (i : Int) + n by omega) (by omega), if_pos (show (i : Int) + n ≤ (s.size : Int) by omega)]
    unfold own1
    exact fb_l2 s a b c d x den shift bal hs n i hn (by omega) (R := fun o => R (own1 s n e (i + 1) o)) (fun o => ih (i + 1) o (by omega)) i 0 o (by omega)
theorem fb_l0 (hs : s.size ≤ 23) {R : Bool → Bool} (hend : ∀ o, Ev (fun k => laws_FnBalanced.l0 k s a b c d x den shift (HT s) bal o ((s.size : Int) + 1)) (R o)) :
    ∀ (e n : Nat) (o : Bool), 1 ≤ n → e + n = s.size + 1 → Ev (fun k => laws_FnBalanced.l0 k s a b c d x den shift (HT s) bal o n) (R (own0 s e n o)) := by
  intro e
  induction e with
  | zero =>
    intro n o h1 hn
    have : (n : Int) = (s.size : Int) + 1 := by omega
    rw [this]
    exact hend o
  | succ e ih =>
    intro n o h1 hn
    apply Ev.succ
    simp only [laws_FnBalanced.l0, if_pos (show (n : Int) ≤ (s.size : Int) by omega)]
    unfold own0
    exact fb_l1 s a b c d x den shift bal hs n h1 (by omega) (R := fun o => R (own0 s e (n + 1) o)) (fun o => ih (n + 1) o (by omega) (by omega)) (s.size + 1 - n) 0 o (by omega)
end
theorem mul_le2 {p den : Int} (h : -200 ≤ p ∧ p ≤ 200) (hd : 1 ≤ den ∧ den ≤ 1000) : -1000000 ≤ p * den ∧ p * den ≤ 1000000 := by
  have h1 := Int.mul_le_mul_of_nonneg_right h.1 (show 0 ≤ den by omega)
  have h2 := Int.mul_le_mul_of_nonneg_right h.2 (show 0 ≤ den by omega)
  omega
theorem mul_le3 {a q den : Int} (h : 0 ≤ a ∧ a ≤ den) (hq : 1 ≤ q ∧ q ≤ 200) : 0 ≤ a * q ∧ a * q ≤ den * 200 := by
  have h1 := Int.mul_nonneg h.1 (show 0 ≤ q by omega)
  have h2 := Int.mul_le_mul h.2 hq.2 (show 0 ≤ q by omega) (show 0 ≤ den by omega)
  omega
theorem FnBalanced : laws_FnBalanced.Pure := by
  intro code more _ _ hc _ _ hm
  apply Ev.rounds
  unfold laws_FnBalanced.f laws_b10Long.f
  have hc' : ∀ x ∈ code, 0 ≤ x ∧ x ≤ 255 := fun x hx => wfByte (hc x hx)
  by_cases c1 : (code.length : Int) > 1048576
  · simp only [if_pos c1, Option.bind_some, if_true]
    exact Ev.now _
  simp only [if_neg c1, Option.bind_some]
  by_cases c2 : (more.length : Int) > 1048576
  · simp only [decide_eq_true c2, if_true]
    exact Ev.now _
  simp only [decide_eq_false c2, Bool.false_eq_true, if_false]
  obtain ⟨s, es, hw, h1, h2⟩ := b10word_ok code hc'
  have hs := (word_facts hw).1
  have hlen : ((HT s).length : Int) = (s.size : Int) + 1 := by rw [ht_length]; omega
  cases hB : BAL s with
  | false =>
    have hWB : WBAL s = false := by rw [WBAL, hw, hB]; rfl
    refine Ev.bind es (Ev.bind (slopes_uneven hw h1 hB) (Ev.bind (linefor_unbal hw hB) (Ev.bind ((hof_impl s).to (show HOF s = (HT s, true) by rw [HOF, hw]; rfl)) (Ev.bind ((iWBAL_ev s).to hWB) ?_))))
    simp only [if_true, bne_self_eq_false, Bool.false_eq_true, if_false, hlen, w64 (show (-9223372036854775808) ≤ (s.size : Int) + 1 by omega) (by omega)]
    apply Ev.succ
    simp only [laws_FnBalanced.j0, Bool.false_eq_true, if_false]
    have key := fb_l0 s 0 0 0 0 0 0 0 false h2 (R := fun o => !o) (fun o => by
      apply Ev.succ
      simp only [laws_FnBalanced.l0, if_neg (show ¬ (s.size : Int) + 1 ≤ (s.size : Int) by omega)]
      cases o with
      | true => exact (Ev.now false).to (by simp)
      | false => simp only [bne_self_eq_false, Bool.false_eq_true, if_false]; exact Ev.now _) s.size 1 true (by omega) (by omega)
    rw [own_bal, hB] at key
    exact key
  | true =>
    have hWB : WBAL s = true := by rw [WBAL, hw, hB]; rfl
    obtain ⟨p, q, r, t, esl, hsl, bp, bq, br, bt'⟩ := slopes_even hw h1 hB
    obtain ⟨R, elf, den, a, hd, ha, hlh, rfl⟩ := linefor_bal hw h1 hB
    have hf := fits_low hlh
    have hlt := hsl den a _ hd ha hf
    refine Ev.bind es (Ev.bind esl (Ev.bind elf (Ev.bind ((hof_impl s).to (show HOF s = (HT s, true) by rw [HOF, hw]; rfl)) (Ev.bind ((iWBAL_ev s).to hWB) ?_))))
    simp only [if_true, bne_self_eq_false, Bool.false_eq_true, if_false, hlen, w64 (show (-9223372036854775808) ≤ (s.size : Int) + 1 by omega) (by omega)]
    apply Ev.succ
    simp only [laws_FnBalanced.j0, Bool.false_eq_true, if_false]
    have key := fb_l0 s p q r t a den (LOW s den a) true h2 (R := fun o => o) (fun o => by
      apply Ev.succ
      simp only [laws_FnBalanced.l0, if_neg (show ¬ (s.size : Int) + 1 ≤ (s.size : Int) by omega)]
      cases o with
      | false => exact (Ev.now false).to (by simp)
      | true =>
        simp only [bne_self_eq_false, Bool.false_eq_true, if_false, if_true]
        have hLW : LW a den (LOW s den a) (s.size : Int) = (strOfNums (LINE a den (LOW s den a) s.size), true) := by
          unfold LW
          rw [if_pos ⟨hd, ha, ⟨hf.1, hf.2.1⟩, by omega⟩, Int.toNat_natCast]
        refine Ev.bind ((iLW_ev a den (LOW s den a) (s.size : Int)).to hLW) ?_
        have hlet := (word_facts hw).2
        have lw := line_word (s := s) (den := den) (a := a) (x := LOW s den a) hlet (by omega) ha hf.1 hf.2.1
        have sw := str_word (s := s) (den := den) (a := a) (x := LOW s den a) hlet
        have e := sw.2 (lw.2 (fun i hi => fits_floor (by omega) hf i hi))
        have q1 := mul_le2 bp hd
        have q2 := mul_le2 br hd
        have q3 := mul_le3 ha bq
        have q4 := mul_le3 ha bt'
        simp only [if_true, if_pos e, if_pos (show q ≥ 1 by omega), if_pos (show t ≥ 1 by omega), w64 (show (-9223372036854775808) ≤ p * den by omega) (by omega), w64 (show (-9223372036854775808) ≤ a * q by omega) (by omega), w64 (show (-9223372036854775808) ≤ a * t by omega) (by omega), w64 (show (-9223372036854775808) ≤ r * den by omega) (by omega), if_pos hlt.1, decide_eq_true hlt.2]
        exact Ev.now _) s.size 1 true (by omega) (by omega)
    rw [own_bal, hB] at key
    exact key


end Go.Proofs.YtkmghekffehimaaDoor.Pure
