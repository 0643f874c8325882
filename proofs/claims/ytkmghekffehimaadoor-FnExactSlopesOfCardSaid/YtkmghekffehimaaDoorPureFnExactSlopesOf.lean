/- Proved: the pure half of the law FnExactSlopesOf: the printed functions answer true, for every input. No condition. -/
import Derived.Test.YtkmghekffehimaaDoorPFnExactSlopesOfx5
import Derived.Test.YtkmghekffehimaaDoorBase
import Derived.Test.YtkmghekffehimaaDoorLists
import Derived.Test.YtkmghekffehimaaDoorWords
import Derived.Test.YtkmghekffehimaaDoorBalance
import Derived.Test.YtkmghekffehimaaDoorGcd
import Derived.Test.YtkmghekffehimaaDoorSlopes
namespace Go.Proofs.YtkmghekffehimaaDoor.Pure
open Go.RowKit Go.Proofs.YtkmghekffehimaaDoor.PFnExactSlopesOf Go.Proofs.YtkmghekffehimaaDoorW.PrintWords Go.Proofs.YtkmghekffehimaaDoorW.PrintLast Go.Proofs.YtkmghekffehimaaDoorW.PrintMore Go.Proofs.YtkmghekffehimaaDoor.Base
set_option linter.unusedVariables false
set_option linter.unusedSimpArgs false

/-! spec.l07Is -/
theorem sWORD_ev (s : ByteArray) (hs : s.size ≤ 1000000000000000) : Ev (fun k => spec_l07Is.f k s) (WORD s) := by
  unfold spec_l07Is.f WORD LET
  refine all_step s.size (fun i => decide (bt s (i : Int) = 97 ∨ bt s (i : Int) = 98)) (fun k i => spec_l07Is.l0 k s i) ?_ ?_
  · apply Ev.succ
    simp only [spec_l07Is.l0, if_neg (show ¬ (s.size : Int) < s.size by omega)]
    exact Ev.now _
  · intro i hi r hr
    apply Ev.succ
    simp only [spec_l07Is.l0, if_pos (show (i : Int) < s.size by omega), if_pos (show 0 ≤ (i : Int) by omega), inc hi (by omega)]
    by_cases c1 : bt s (i : Int) = 97
    · simp only [if_pos c1, decide_eq_true (show bt s (i : Int) = 97 ∨ bt s (i : Int) = 98 from .inl c1), Bool.true_and]
      exact hr
    · by_cases c2 : bt s (i : Int) = 98
      · simp only [if_neg c1, if_pos c2, decide_eq_true (show bt s (i : Int) = 97 ∨ bt s (i : Int) = 98 from .inr c2), Bool.true_and]
        exact hr
      · simp only [if_neg c1, if_neg c2, decide_eq_false (show ¬ (bt s (i : Int) = 97 ∨ bt s (i : Int) = 98) by omega), Bool.false_and]
        exact Ev.now _

/-! spec.l07Heights -/
theorem sHT_l0 (s : ByteArray) (hw : WORD s = true) : ∀ (d i : Nat), d + i = s.size → Ev (fun k => spec_l07Heights.l0 k s ((List.range (i + 1)).map (hgt s)) i) (HT s) := by
  obtain ⟨h1, h2⟩ := word_facts hw
  intro d
  induction d with
  | zero =>
    intro i hd
    apply Ev.succ
    simp only [spec_l07Heights.l0, if_neg (show ¬ (i : Int) < s.size by omega)]
    rw [show i = s.size by omega]
    exact Ev.now _
  | succ d ih =>
    intro i hd
    have hi : i < s.size := by omega
    have hr := hgt_range s i
    have e : wrap64 (hgt s i + (bt s (i : Int) - 97) % 256) = hgt s (i + 1) := by
      rw [show hgt s (i + 1) = hgt s i + (if bt s (i : Int) = 98 then 1 else 0) from rfl]
      rcases h2 i hi with e | e
      · rw [e, if_neg (by omega), w64 (by omega) (by omega)]; omega
      · rw [e, if_pos rfl, w64 (by omega) (by omega)]; omega
    have := ih (i + 1) (by omega)
    rw [List.range_succ, List.map_append] at this
    apply Ev.succ
    simp only [spec_l07Heights.l0, if_pos (show (i : Int) < s.size by omega), if_pos (show 0 ≤ (i : Int) by omega), List.length_map, List.length_range, if_pos (show (i : Int) < ((i + 1 : Nat) : Int) by omega), if_pos (show i + 1 < 17592186044416 by omega), ht_take_get s (show i < i + 1 by omega), e, inc hi (by omega)]
    exact this
theorem sHT_ev (s : ByteArray) (hw : WORD s = true) : Ev (fun k => spec_l07Heights.f k s) (HT s) := sHT_l0 s hw s.size 0 (by omega)

/-! spec.l07Ends -/
def vLo (s : ByteArray) (i j : Nat) : Int := hgt s j - hgt s i - 1
def vHi (s : ByteArray) (i j : Nat) : Int := -(hgt s j - hgt s i + 1)
theorem hgt_diff (s : ByteArray) {i j : Nat} (h : i < j) (hj : j ≤ s.size) (hs : s.size ≤ 120) : 0 ≤ hgt s j - hgt s i ∧ hgt s j - hgt s i ≤ (j : Int) - i := by
  have := rise_range s (j - i) i
  unfold rise at this
  rw [show i + (j - i) = j by omega] at this
  omega
/-- The greatest of the low ends, the least of the high ones. -/
structure ENDS (s : ByteArray) (a b : Int) (P : Nat → Nat → Prop) (lo ld hi hd : Int) : Prop where
  l : MXP s (vLo s) a P lo ld
  h : MXP s (vHi s) b P (-hi) hd
theorem ends_step {s : ByteArray} {a b : Int} {P : Nat → Nat → Prop} {lo ld hi hd : Int} (h : ENDS s a b P lo ld hi hd) (hs : s.size ≤ 120) {i j : Nat} (hij : i < j) (hj : j ≤ s.size) :
    ENDS s a b (fun x y => P x y ∨ (x = i ∧ y = j)) (if (hgt s j - hgt s i - 1) * ld > lo * ((j : Int) - i) then hgt s j - hgt s i - 1 else lo) (if (hgt s j - hgt s i - 1) * ld > lo * ((j : Int) - i) then (j : Int) - i else ld) (if (hgt s j - hgt s i + 1) * hd < hi * ((j : Int) - i) then hgt s j - hgt s i + 1 else hi) (if (hgt s j - hgt s i + 1) * hd < hi * ((j : Int) - i) then (j : Int) - i else hd) := by
  have hr := hgt_diff s hij hj hs
  refine ⟨?_, ?_⟩
  · by_cases c : (hgt s j - hgt s i - 1) * ld > lo * ((j : Int) - i)
    · rw [if_pos c, if_pos c]
      exact h.l.yes hs hij hj (by unfold vLo; omega) c
    · rw [if_neg c, if_neg c]
      exact h.l.no c
  · have e1 : vHi s i j * hd = -((hgt s j - hgt s i + 1) * hd) := by unfold vHi; rw [Int.neg_mul]
    have e2 : -hi * ((j : Int) - i) = -(hi * ((j : Int) - i)) := Int.neg_mul _ _
    by_cases c : (hgt s j - hgt s i + 1) * hd < hi * ((j : Int) - i)
    · rw [if_pos c, if_pos c]
      exact h.h.yes hs hij hj (by unfold vHi; omega) (by rw [e1, e2]; omega)
    · rw [if_neg c, if_neg c]
      exact h.h.no (by rw [e1, e2]; omega)
theorem ends_bnd {s : ByteArray} {a b : Int} {P : Nat → Nat → Prop} {lo ld hi hd : Int} (h : ENDS s a b P lo ld hi hd) : (-200 ≤ lo ∧ lo ≤ 200) ∧ (1 ≤ ld ∧ ld ≤ 120) ∧ (-200 ≤ hi ∧ hi ≤ 200) ∧ (1 ≤ hd ∧ hd ≤ 120) := by
  have h1 := h.l.xb
  have h2 := h.h.xb
  exact ⟨h1, ⟨h.l.d1, h.l.d2⟩, by omega, ⟨h.h.d1, h.h.d2⟩⟩
theorem sends_l1 (s : ByteArray) (hs : s.size ≤ 120) (i : Nat) (hi : i ≤ s.size) (hnext : ∀ lo ld hi hd, ENDS s (-1) (-2) (fun x _ => x < i + 1) lo ld hi hd → ∃ r : Int × Int × Int × Int, Ev (fun k => spec_l07Ends.l0 k (HT s) lo ld hi hd ((i : Int) + 1)) r ∧ ENDS s (-1) (-2) (fun _ _ => True) r.1 r.2.1 r.2.2.1 r.2.2.2) : ∀ (e j : Nat) (lo ld hi hd : Int), e + j = s.size + 1 → i < j → ENDS s (-1) (-2) (fun x y => x < i ∨ (x = i ∧ y < j)) lo ld hi hd → ∃ r : Int × Int × Int × Int, Ev (fun k => spec_l07Ends.l1 k (HT s) lo ld hi hd i j) r ∧ ENDS s (-1) (-2) (fun _ _ => True) r.1 r.2.1 r.2.2.1 r.2.2.2 := by
  intro e
  induction e with
  | zero =>
    intro j lo ld hi hd he hij h
    obtain ⟨r, hr, hr2⟩ := hnext lo ld hi hd ⟨h.l.mono (fun x y hxy hy hx => by omega), h.h.mono (fun x y hxy hy hx => by omega)⟩
    refine ⟨r, ?_, hr2⟩
    apply Ev.succ
    simp only [spec_l07Ends.l1, ht_length, if_neg (show ¬ (j : Int) < ((s.size + 1 : Nat) : Int) by omega), w64 (show (-9223372036854775808) ≤ (i : Int) + 1 by omega) (by omega)]
    exact hr
  | succ e ih =>
    intro j lo ld hi' hd he hij h
    have hb := ends_bnd h
    have hd2 := hgt_diff s hij (show j ≤ s.size by omega) hs
    have st := ends_step h hs hij (show j ≤ s.size by omega)
    have b1 := prod_bnd (a := hgt s j - hgt s i - 1) (b := ld) (by omega) (by omega)
    have b2 := prod_bnd (a := hgt s j - hgt s i + 1) (b := hd) (by omega) (by omega)
    have b3 := prod_bnd (a := lo) (b := (j : Int) - i) (by omega) (by omega)
    have b4 := prod_bnd (a := hi') (b := (j : Int) - i) (by omega) (by omega)
    have st' := ENDS.mk (st.l.mono (Q := fun x y => x < i ∨ (x = i ∧ y < j + 1)) (fun x y _ _ hx => by omega)) (st.h.mono (Q := fun x y => x < i ∨ (x = i ∧ y < j + 1)) (fun x y _ _ hx => by omega))
    obtain ⟨r, hr, hr2⟩ := ih (j + 1) _ _ _ _ (by omega) (by omega) st'
    refine ⟨r, ?_, hr2⟩
    apply Ev.succ
    simp only [spec_l07Ends.l1, ht_length, if_pos (show (j : Int) < ((s.size + 1 : Nat) : Int) by omega), if_pos (show 0 ≤ (j : Int) by omega), if_pos (show 0 ≤ (i : Int) by omega), if_pos (show (i : Int) < ((s.size + 1 : Nat) : Int) by omega), ht_get s (show j ≤ s.size by omega), ht_get s (show i ≤ s.size by omega), w64 (show (-9223372036854775808) ≤ hgt s j - hgt s i by omega) (by omega), w64 (show (-9223372036854775808) ≤ hgt s j - hgt s i - 1 by omega) (by omega), w64 (show (-9223372036854775808) ≤ hgt s j - hgt s i + 1 by omega) (by omega), w64 (show (-9223372036854775808) ≤ (j : Int) - i by omega) (by omega), w64 (show (-9223372036854775808) ≤ (hgt s j - hgt s i - 1) * ld by omega) (by omega), w64 (show (-9223372036854775808) ≤ (hgt s j - hgt s i + 1) * hd by omega) (by omega), w64 (show (-9223372036854775808) ≤ lo * ((j : Int) - i) by omega) (by omega), w64 (show (-9223372036854775808) ≤ hi' * ((j : Int) - i) by omega) (by omega), w64 (show (-9223372036854775808) ≤ (j : Int) + 1 by omega) (by omega)]
    by_cases c1 : (hgt s j - hgt s i - 1) * ld > lo * ((j : Int) - i) <;> by_cases c2 : (hgt s j - hgt s i + 1) * hd < hi' * ((j : Int) - i)
    · simp only [if_pos c1, if_pos c2] at hr ⊢
      exact hr
    · simp only [if_pos c1, if_neg c2] at hr ⊢
      exact hr
    · simp only [if_neg c1, if_pos c2] at hr ⊢
      exact hr
    · simp only [if_neg c1, if_neg c2] at hr ⊢
      exact hr
theorem sends_l0 (s : ByteArray) (hs : s.size ≤ 120) : ∀ (e i : Nat) (lo ld hi hd : Int), e + i = s.size + 1 → ENDS s (-1) (-2) (fun x _ => x < i) lo ld hi hd → ∃ r : Int × Int × Int × Int, Ev (fun k => spec_l07Ends.l0 k (HT s) lo ld hi hd i) r ∧ ENDS s (-1) (-2) (fun _ _ => True) r.1 r.2.1 r.2.2.1 r.2.2.2 := by
  intro e
  induction e with
  | zero =>
    intro i lo ld hi hd he h
    refine ⟨(lo, ld, hi, hd), ?_, ⟨h.l.mono (fun x y _ _ _ => by omega), h.h.mono (fun x y _ _ _ => by omega)⟩⟩
    apply Ev.succ
    simp only [spec_l07Ends.l0, ht_length, if_neg (show ¬ (i : Int) < ((s.size + 1 : Nat) : Int) by omega)]
    exact Ev.now _
  | succ e ih =>
    intro i lo ld hi hd he h
    obtain ⟨r, hr, hr2⟩ := sends_l1 s hs i (by omega) (fun lo ld hi hd h => ih (i + 1) lo ld hi hd (by omega) h) (s.size - i) (i + 1) lo ld hi hd (by omega) (by omega) ⟨h.l.mono (fun x y _ _ hx => by omega), h.h.mono (fun x y _ _ hx => by omega)⟩
    refine ⟨r, ?_, hr2⟩
    apply Ev.succ
    simp only [spec_l07Ends.l0, ht_length, if_pos (show (i : Int) < ((s.size + 1 : Nat) : Int) by omega), w64 (show (-9223372036854775808) ≤ (i : Int) + 1 by omega) (by omega)]
    exact hr
theorem sends_ev (s : ByteArray) (hw : WORD s = true) : ∃ r : Int × Int × Int × Int, Ev (fun k => spec_l07Ends.f k s) r ∧ ENDS s (-1) (-2) (fun _ _ => True) r.1 r.2.1 r.2.2.1 r.2.2.2 := by
  obtain ⟨r, hr, hr2⟩ := sends_l0 s (word_facts hw).1 (s.size + 1) 0 (-1) 1 2 1 (by omega) ⟨MXP.mono (MXP.start (by omega)) (fun x y _ _ hx => by omega), MXP.mono (MXP.start (by omega)) (fun x y _ _ hx => by omega)⟩
  exact ⟨r, by unfold spec_l07Ends.f; exact Ev.bind (sHT_ev s hw) hr, hr2⟩

/-! spec.l07Gcd -/
theorem gcd_l0 : ∀ (n : Nat) (a b : Int), b.natAbs ≤ n → 0 ≤ a → 0 ≤ b → Ev (fun k => spec_l07Gcd.l0 k a b) (Int.gcd a b : Int) := by
  intro n
  induction n with
  | zero =>
    intro a b hn ha hb
    have e : b = 0 := by omega
    subst e
    apply Ev.succ
    simp only [spec_l07Gcd.l0, if_neg (show ¬ (0 : Int) > 0 by omega)]
    refine (Ev.now _).to ?_
    rw [Int.gcd_zero_right]
    omega
  | succ n ih =>
    intro a b hn ha hb
    by_cases hz : b = 0
    · subst hz
      apply Ev.succ
      simp only [spec_l07Gcd.l0, if_neg (show ¬ (0 : Int) > 0 by omega)]
      refine (Ev.now _).to ?_
      rw [Int.gcd_zero_right]
      omega
    · apply Ev.succ
      simp only [spec_l07Gcd.l0, if_pos (show b > 0 by omega), if_neg hz]
      have := tmod_abs_lt (a := a) hz
      exact (ih b (a.tmod b) (by omega) hb (Int.tmod_nonneg _ ha)).to (by rw [gcd_step])
theorem l07Gcd_ev (a b : Int) (ha : 0 ≤ a) (hb : 0 ≤ b) : Ev (fun k => spec_l07Gcd.f k a b) (Int.gcd a b : Int) := gcd_l0 b.natAbs a b (Nat.le_refl _) ha hb

/-! spec.l00Max -/
theorem max_eq (a b : Int) : spec_l00Max.f a b = some (max a b) := by
  unfold spec_l00Max.f
  by_cases h : a > b
  · rw [if_pos h, Int.max_eq_left (by omega)]
  · rw [if_neg h, Int.max_eq_right (by omega)]

/-! impl.IsWord -/
theorem iWORD_eq (s : ByteArray) : impl_IsWord.f s = some (WORD s) := by
  unfold impl_IsWord.f WORD
  by_cases h : (s.size : Int) ≤ 120
  · have e : (Go.Lib.trimS s.data.toList [97, 98] == ([] : List UInt8)) = LET s := by
      rw [Bool.eq_iff_iff, beq_iff_eq, trim_nil, let_iff]
    simp only [if_pos h, strings_Trim.f, decide_eq_true h, Bool.and_true]
    rw [if_pos ⟨by first | trivial | rfl, by omega⟩, Option.bind_some]
    simp only [toListD]
    rw [e]
  · simp only [if_neg h, decide_eq_false h, Bool.and_false]

/-! impl.bit -/
theorem bit_eq (b : Bool) : impl_bit.f b = some (if b then 1 else 0) := by
  unfold impl_bit.f; cases b <;> rfl

/-! impl.heights -/
theorem iHT_l0 (s : ByteArray) (h1 : s.size ≤ 120) : ∀ (d i : Nat), d + i = s.size → Ev (fun k => impl_heights.l0 k s ((List.range (i + 1)).map (hgt s)) (s.size : Int) i) (HT s) := by
  intro d
  induction d with
  | zero =>
    intro i hd
    apply Ev.succ
    simp only [impl_heights.l0, if_neg (show ¬ (i : Int) < s.size by omega)]
    rw [show i = s.size by omega]
    exact Ev.now _
  | succ d ih =>
    intro i hd
    have hi : i < s.size := by omega
    have hr := hgt_range s i
    have e : wrap64 (hgt s i + (if (bt s (i : Int) == 98) = true then 1 else 0)) = hgt s (i + 1) := by
      rw [show hgt s (i + 1) = hgt s i + (if bt s (i : Int) = 98 then 1 else 0) from rfl]
      by_cases c : bt s (i : Int) = 98
      · rw [if_pos (by rw [c]; rfl), if_pos c, w64 (by omega) (by omega)]
      · rw [if_neg (by simpa using c), if_neg c, w64 (by omega) (by omega)]
    have := ih (i + 1) (by omega)
    rw [List.range_succ, List.map_append] at this
    apply Ev.succ
    simp only [impl_heights.l0, if_pos (show (i : Int) < s.size by omega), if_pos (show 0 ≤ (i : Int) by omega), List.length_map, List.length_range, if_pos (show (i : Int) < ((i + 1 : Nat) : Int) by omega), if_pos (show i + 1 < 17592186044416 by omega), ht_take_get s (show i < i + 1 by omega), bit_eq, Option.bind_some, e, inc hi (by omega)]
    exact this
theorem iHT_ev (s : ByteArray) (h1 : s.size ≤ 120) : Ev (fun k => impl_heights.f k s) (HT s) := iHT_l0 s h1 s.size 0 (by omega)

/-! impl.compare -/
def cmpOf (a b : Int) : Int := if a < b then -1 else if a > b then 1 else 0
theorem compare_eq (a b : Int) : impl_compare.f a b = some (cmpOf a b) := by
  unfold impl_compare.f cmpOf
  by_cases h : a < b
  · rw [if_pos h, if_pos h]
  · rw [if_neg h, if_neg h]
    by_cases h2 : a > b
    · rw [if_pos h2, if_pos h2]
    · rw [if_neg h2, if_neg h2]
theorem cmp_pos (a b : Int) : cmpOf a b > 0 ↔ a > b := by
  unfold cmpOf; split <;> (try split) <;> omega
theorem cmp_neg (a b : Int) : cmpOf a b < 0 ↔ a < b := by
  unfold cmpOf; split <;> (try split) <;> omega
theorem cmp_nonneg (a b : Int) : cmpOf a b ≥ 0 ↔ a ≥ b := by
  unfold cmpOf; split <;> (try split) <;> omega
theorem cmp_nonpos (a b : Int) : cmpOf a b ≤ 0 ↔ a ≤ b := by
  unfold cmpOf; split <;> (try split) <;> omega

/-! impl.worth).against -/
theorem against_ev {a n b m : Int} (hn : n ≠ 0) (hm : m ≠ 0) (h1 : -9000000000000000000 ≤ a * m ∧ a * m ≤ 9000000000000000000) (h2 : -9000000000000000000 ≤ b * n ∧ b * n ≤ 9000000000000000000) : Ev (fun k => impl_worth_against.f k a n b m) (cmpOf (a * m) (b * n)) := by
  unfold impl_worth_against.f
  simp only [if_neg hn]
  apply Ev.succ
  simp only [impl_worth_against.j0, Bool.false_eq_true, if_false, if_neg hn, if_neg hm, w64 (show (-9223372036854775808) ≤ a * m by omega) (by omega), w64 (show (-9223372036854775808) ≤ b * n by omega) (by omega), compare_eq, Option.bind_some]
  exact Ev.now _

/-! impl.slopes -/
theorem islo_l1 (s : ByteArray) (hs : s.size ≤ 120) (j : Nat) (hj : j ≤ s.size) (hnext : ∀ lo ld hi hd, ENDS s (-2) (-3) (fun _ y => y < j + 1) lo ld hi hd → ∃ r : Int × Int × Int × Int, Ev (fun k => impl_slopes.l0 k (HT s) ((s.size + 1 : Nat) : Int) ((j : Int) + 1) lo ld hi hd) r ∧ ENDS s (-2) (-3) (fun _ _ => True) r.1 r.2.1 r.2.2.1 r.2.2.2) : ∀ (e i : Nat) (lo ld hi hd : Int), e + i = j → ENDS s (-2) (-3) (fun x y => y < j ∨ (y = j ∧ x < i)) lo ld hi hd → ∃ r : Int × Int × Int × Int, Ev (fun k => impl_slopes.l1 k (HT s) j ((s.size + 1 : Nat) : Int) j j i lo ld hi hd) r ∧ ENDS s (-2) (-3) (fun _ _ => True) r.1 r.2.1 r.2.2.1 r.2.2.2 := by
  intro e
  induction e with
  | zero =>
    intro i lo ld hi hd he h
    obtain ⟨r, hr, hr2⟩ := hnext lo ld hi hd ⟨h.l.mono (fun x y hxy hy hx => by omega), h.h.mono (fun x y hxy hy hx => by omega)⟩
    refine ⟨r, ?_, hr2⟩
    apply Ev.succ
    simp only [impl_slopes.l1, if_neg (show ¬ (i : Int) < (j : Int) by omega), w64 (show (-9223372036854775808) ≤ (j : Int) + 1 by omega) (by omega)]
    exact hr
  | succ e ih =>
    intro i lo ld hi' hd he h
    have hij : i < j := by omega
    have hb := ends_bnd h
    have hd2 := hgt_diff s hij hj hs
    have st := ends_step h hs hij hj
    have b1 := prod_bnd (a := hgt s j - hgt s i - 1) (b := ld) (by omega) (by omega)
    have b2 := prod_bnd (a := hgt s j - hgt s i + 1) (b := hd) (by omega) (by omega)
    have b3 := prod_bnd (a := lo) (b := (j : Int) - i) (by omega) (by omega)
    have b4 := prod_bnd (a := hi') (b := (j : Int) - i) (by omega) (by omega)
    have st' := ENDS.mk (st.l.mono (Q := fun x y => y < j ∨ (y = j ∧ x < i + 1)) (fun x y _ _ hx => by omega)) (st.h.mono (Q := fun x y => y < j ∨ (y = j ∧ x < i + 1)) (fun x y _ _ hx => by omega))
    obtain ⟨r, hr, hr2⟩ := ih (i + 1) _ _ _ _ (by omega) st'
    have a1 := against_ev (a := hgt s j - hgt s i - 1) (n := (j : Int) - i) (b := lo) (m := ld) (by omega) (by omega) (by omega) (by omega)
    have a2 := against_ev (a := hgt s j - hgt s i + 1) (n := (j : Int) - i) (b := hi') (m := hd) (by omega) (by omega) (by omega) (by omega)
    refine ⟨r, ?_, hr2⟩
    apply Ev.succ
    simp only [impl_slopes.l1, ht_length, if_pos (show (i : Int) < (j : Int) by omega), if_pos (show 0 ≤ (j : Int) by omega), if_pos (show (j : Int) < ((s.size + 1 : Nat) : Int) by omega), if_pos (show 0 ≤ (i : Int) by omega), if_pos (show (i : Int) < ((s.size + 1 : Nat) : Int) by omega), ht_get s hj, ht_get s (show i ≤ s.size by omega), w64 (show (-9223372036854775808) ≤ hgt s j - hgt s i by omega) (by omega), w64 (show (-9223372036854775808) ≤ hgt s j - hgt s i - 1 by omega) (by omega), w64 (show (-9223372036854775808) ≤ hgt s j - hgt s i + 1 by omega) (by omega), w64 (show (-9223372036854775808) ≤ (j : Int) - i by omega) (by omega), w64 (show (-9223372036854775808) ≤ (i : Int) + 1 by omega) (by omega)]
    refine Ev.bind a1 ?_
    by_cases c1 : (hgt s j - hgt s i - 1) * ld > lo * ((j : Int) - i)
    · simp only [if_pos ((cmp_pos _ _).2 c1)]
      refine Ev.bind a2 ?_
      by_cases c2 : (hgt s j - hgt s i + 1) * hd < hi' * ((j : Int) - i)
      · simp only [if_pos ((cmp_neg _ _).2 c2)]
        simp only [if_pos c1, if_pos c2] at hr
        exact hr
      · simp only [if_neg (fun h => c2 ((cmp_neg _ _).1 h))]
        simp only [if_pos c1, if_neg c2] at hr
        exact hr
    · simp only [if_neg (fun h => c1 ((cmp_pos _ _).1 h))]
      refine Ev.bind a2 ?_
      by_cases c2 : (hgt s j - hgt s i + 1) * hd < hi' * ((j : Int) - i)
      · simp only [if_pos ((cmp_neg _ _).2 c2)]
        simp only [if_neg c1, if_pos c2] at hr
        exact hr
      · simp only [if_neg (fun h => c2 ((cmp_neg _ _).1 h))]
        simp only [if_neg c1, if_neg c2] at hr
        exact hr
theorem islo_l0 (s : ByteArray) (hs : s.size ≤ 120) : ∀ (e j : Nat) (lo ld hi hd : Int), e + j = s.size + 1 → ENDS s (-2) (-3) (fun _ y => y < j) lo ld hi hd → ∃ r : Int × Int × Int × Int, Ev (fun k => impl_slopes.l0 k (HT s) ((s.size + 1 : Nat) : Int) j lo ld hi hd) r ∧ ENDS s (-2) (-3) (fun _ _ => True) r.1 r.2.1 r.2.2.1 r.2.2.2 := by
  intro e
  induction e with
  | zero =>
    intro j lo ld hi hd he h
    refine ⟨(lo, ld, hi, hd), ?_, ⟨h.l.mono (fun x y _ _ _ => by omega), h.h.mono (fun x y _ _ _ => by omega)⟩⟩
    apply Ev.succ
    simp only [impl_slopes.l0, if_neg (show ¬ (j : Int) < ((s.size + 1 : Nat) : Int) by omega)]
    exact Ev.now _
  | succ e ih =>
    intro j lo ld hi hd he h
    obtain ⟨r, hr, hr2⟩ := islo_l1 s hs j (by omega) (fun lo ld hi hd h => ih (j + 1) lo ld hi hd (by omega) h) j 0 lo ld hi hd (by omega) ⟨h.l.mono (fun x y _ _ hx => by omega), h.h.mono (fun x y _ _ hx => by omega)⟩
    refine ⟨r, ?_, hr2⟩
    apply Ev.succ
    simp only [impl_slopes.l0, if_pos (show (j : Int) < ((s.size + 1 : Nat) : Int) by omega)]
    exact hr
theorem islopes_ev (s : ByteArray) (h1 : s.size ≤ 120) : ∃ r : Int × Int × Int × Int, Ev (fun k => impl_slopes.f k s) r ∧ ENDS s (-2) (-3) (fun _ _ => True) r.1 r.2.1 r.2.2.1 r.2.2.2 := by
  obtain ⟨r, hr, hr2⟩ := islo_l0 s h1 (s.size + 1) 0 (-2) 1 3 1 (by omega) ⟨MXP.mono (MXP.start (by omega)) (fun x y _ _ hx => by omega), MXP.mono (MXP.start (by omega)) (fun x y _ _ hx => by omega)⟩
  refine ⟨r, ?_, hr2⟩
  unfold impl_slopes.f
  refine Ev.bind (iHT_ev s h1) ?_
  rw [ht_length]
  exact hr

/-! impl.divisor -/
theorem div_l0 : ∀ (n : Nat) (a b : Int), b.natAbs ≤ n → a.natAbs ≤ 9223372036854775807 → b.natAbs ≤ 9223372036854775807 → Ev (fun k => impl_divisor.l0 k a b) (Int.gcd a b : Int) := by
  intro n
  induction n with
  | zero =>
    intro a b hn ha hb
    have e : b = 0 := by omega
    subst e
    apply Ev.succ
    simp only [impl_divisor.l0, if_true]
    refine (Ev.now _).to ?_
    rw [w64 (by omega) (by omega), Int.gcd_zero_right]
    unfold mx
    split <;> omega
  | succ n ih =>
    intro a b hn ha hb
    by_cases hz : b = 0
    · subst hz
      apply Ev.succ
      simp only [impl_divisor.l0, if_true]
      refine (Ev.now _).to ?_
      rw [w64 (by omega) (by omega), Int.gcd_zero_right]
      unfold mx
      split <;> omega
    · apply Ev.succ
      simp only [impl_divisor.l0, if_neg hz]
      have := tmod_abs_lt (a := a) hz
      exact (ih b (a.tmod b) (by omega) hb (by omega)).to (by rw [gcd_step])
theorem divisor_ev (a b : Int) (ha : a.natAbs ≤ 9223372036854775807) (hb : b.natAbs ≤ 9223372036854775807) : Ev (fun k => impl_divisor.f k a b) (Int.gcd a b : Int) := div_l0 b.natAbs a b (Nat.le_refl _) ha hb

/-! impl.worth).lowest -/
theorem tdiv_small {a g : Int} (hg : 0 < g) (ha : -9000000000000000000 ≤ a ∧ a ≤ 9000000000000000000) : wrap64 (a.tdiv g) = a.tdiv g := by
  have := tdiv_range (m := 9000000000000000000) hg ha.1 ha.2 (by omega)
  exact w64 (by omega) (by omega)
theorem lowest_ev {a n : Int} (hn : 0 < n) (ha : -9000000000000000000 ≤ a ∧ a ≤ 9000000000000000000) (hn2 : n ≤ 9000000000000000000) : Ev (fun k => impl_worth_lowest.f k a n) (a.tdiv (Int.gcd a n : Int), n.tdiv (Int.gcd a n : Int)) := by
  have g0 : 0 < Int.gcd a n := Int.gcd_pos_of_ne_zero_right a (by omega)
  unfold impl_worth_lowest.f
  refine Ev.bind (divisor_ev a n (by omega) (by omega)) ?_
  simp only [if_neg (show ¬ (Int.gcd a n : Int) = 0 by omega), tdiv_small (show (0 : Int) < (Int.gcd a n : Int) by omega) ha, tdiv_small (show (0 : Int) < (Int.gcd a n : Int) by omega) (show -9000000000000000000 ≤ n ∧ n ≤ 9000000000000000000 by omega)]
  exact Ev.now _

/-! the law -/
theorem v01 (s : ByteArray) (h : 1 ≤ s.size) (h2 : s.size ≤ 120) : -1 ≤ vLo s 0 1 ∧ -2 ≤ vHi s 0 1 := by
  have := hgt_diff s (show 0 < 1 by omega) h h2
  unfold vLo vHi
  omega
theorem data_nil (s : ByteArray) : (s.toList == ([] : List UInt8)) = ((s.size : Int) == 0) := by
  rw [toListD]
  have : s.data.toList.length = s.size := by simp
  cases h : s.data.toList with
  | nil =>
    rw [h] at this
    have h2 : (s.size : Int) = 0 := by simp only [List.length_nil] at this; omega
    rw [h2]; rfl
  | cons x l =>
    rw [h] at this
    simp only [List.length_cons] at this
    have h2 : ¬ (s.size : Int) = 0 := by omega
    rw [show ((x :: l) == ([] : List UInt8)) = false from rfl]
    exact (beq_eq_false_iff_ne.2 h2).symm
/-- Which of two fractions is greater, whatever the way they are written. -/
theorem cross_same {x d y e p c q g : Int} (hd : 0 < d) (he : 0 < e) (hc : 0 < c) (hg : 0 < g) (h1 : x * e = y * d) (h2 : p * g = q * c) : x * c ≥ p * d ↔ y * g ≥ q * e := by
  have key : (x * c) * (e * g) = (y * g) * (d * c) := by
    have : (x * e) * (c * g) = (y * d) * (c * g) := by rw [h1]
    calc (x * c) * (e * g) = (x * e) * (c * g) := by simp [Int.mul_assoc, Int.mul_comm, Int.mul_left_comm]
      _ = (y * d) * (c * g) := this
      _ = (y * g) * (d * c) := by simp [Int.mul_assoc, Int.mul_comm, Int.mul_left_comm]
  have key2 : (p * d) * (e * g) = (q * e) * (d * c) := by
    have : (p * g) * (d * e) = (q * c) * (d * e) := by rw [h2]
    calc (p * d) * (e * g) = (p * g) * (d * e) := by simp [Int.mul_assoc, Int.mul_comm, Int.mul_left_comm]
      _ = (q * c) * (d * e) := this
      _ = (q * e) * (d * c) := by simp [Int.mul_assoc, Int.mul_comm, Int.mul_left_comm]
  have p1 : 0 < e * g := Int.mul_pos he hg
  have p2 : 0 < d * c := Int.mul_pos hd hc
  constructor
  · intro h
    have := Int.mul_le_mul_of_nonneg_right (show p * d ≤ x * c from h) (show 0 ≤ e * g by omega)
    rw [key, key2] at this
    exact Int.le_of_mul_le_mul_right this p2
  · intro h
    have := Int.mul_le_mul_of_nonneg_right (show q * e ≤ y * g from h) (show 0 ≤ d * c by omega)
    rw [← key, ← key2] at this
    exact Int.le_of_mul_le_mul_right this p1
theorem neg_tdiv_hi {x g : Int} : (-x).tdiv g = -(x.tdiv g) := Int.neg_tdiv ..
theorem gcd_negl (x d : Int) : Int.gcd (-x) d = Int.gcd x d := by unfold Int.gcd; rw [Int.natAbs_neg]
theorem gcd_absl (x d : Int) : Int.gcd (max x (-x)) d = Int.gcd x d := by
  have : max x (-x) = x ∨ max x (-x) = -x := by omega
  rcases this with e | e <;> rw [e]
  exact gcd_negl x d
/-- What both answer. -/
theorem slopes_both (s : ByteArray) (hw : WORD s = true) (h1 : 1 ≤ s.size) : ∃ r : Int × Int × Int × Int × Bool, Ev (fun k => spec_SlopesOf.j0 k s false) r ∧ Ev (fun k => impl_SlopesOf.j0 k s false) r := by
  have hs := (word_facts hw).1
  obtain ⟨⟨lo, ld, hi, hd⟩, e1, m1⟩ := sends_ev s hw
  obtain ⟨⟨lo', ld', hi', hd'⟩, e2, m2⟩ := islopes_ev s hs
  simp only at m1 m2
  have hv := v01 s h1 hs
  have sl := m1.l.same m2.l h1 hv.1 (by omega)
  have sh := m1.h.same m2.h h1 hv.2 (by omega)
  have b1 := ends_bnd m1
  have b2 := ends_bnd m2
  have sh' : hi * hd' = hi' * hd := by
    rw [Int.neg_mul, Int.neg_mul] at sh; omega
  have hpos : 0 ≤ hi := by
    have := m1.h.ex
    rcases this with ⟨e, _⟩ | ⟨i, j, hij, hj, e, _⟩
    · omega
    · have := hgt_diff s hij hj hs
      unfold vHi at e; omega
  have low := lowest_same (show 0 < ld by omega) (show 0 < ld' by omega) sl
  have high := lowest_same (show 0 < hd by omega) (show 0 < hd' by omega) sh'
  have c := cross_same (p := hi) (c := hd) (q := hi') (g := hd') (show 0 < ld by omega) (show 0 < ld' by omega) (show 0 < hd by omega) (show 0 < hd' by omega) sl sh'
  have q1 := prod_bnd (a := lo) (b := hd) (by omega) (by omega)
  have q2 := prod_bnd (a := hi) (b := ld) (by omega) (by omega)
  have q3 := prod_bnd (a := lo') (b := hd') (by omega) (by omega)
  have q4 := prod_bnd (a := hi') (b := ld') (by omega) (by omega)
  have ag := against_ev (a := lo') (n := ld') (b := hi') (m := hd') (by omega) (by omega) (by omega) (by omega)
  by_cases hc : lo * hd ≥ hi * ld
  · refine ⟨(0, 0, 0, 0, false), ?_, ?_⟩
    · apply Ev.succ
      simp only [spec_SlopesOf.j0, Bool.false_eq_true, if_false]
      refine Ev.bind e1 ?_
      simp only [w64 (show (-9223372036854775808) ≤ lo * hd by omega) (by omega), w64 (show (-9223372036854775808) ≤ hi * ld by omega) (by omega), if_pos hc]
      exact Ev.now _
    · apply Ev.succ
      simp only [impl_SlopesOf.j0, Bool.false_eq_true, if_false]
      refine Ev.bind e2 (Ev.bind ag ?_)
      simp only [if_pos ((cmp_nonneg _ _).2 (c.1 hc))]
      exact Ev.now _
  · have g0 : 0 < Int.gcd lo ld := Int.gcd_pos_of_ne_zero_right lo (by omega)
    have g1 : 0 < Int.gcd hi hd := Int.gcd_pos_of_ne_zero_right hi (by omega)
    refine ⟨(lo.tdiv (Int.gcd lo ld : Int), ld.tdiv (Int.gcd lo ld : Int), hi.tdiv (Int.gcd hi hd : Int), hd.tdiv (Int.gcd hi hd : Int), true), ?_, ?_⟩
    · apply Ev.succ
      simp only [spec_SlopesOf.j0, Bool.false_eq_true, if_false]
      refine Ev.bind e1 ?_
      simp only [w64 (show (-9223372036854775808) ≤ lo * hd by omega) (by omega), w64 (show (-9223372036854775808) ≤ hi * ld by omega) (by omega), if_neg hc, w64 (show (-9223372036854775808) ≤ -lo by omega) (by omega), max_eq, Option.bind_some]
      refine Ev.bind (l07Gcd_ev (max lo (-lo)) ld (by omega) (by omega)) (Ev.bind (l07Gcd_ev hi hd hpos (by omega)) ?_)
      simp only [gcd_absl, if_neg (show ¬ (Int.gcd lo ld : Int) = 0 by omega), if_neg (show ¬ (Int.gcd hi hd : Int) = 0 by omega), tdiv_small (show (0 : Int) < (Int.gcd lo ld : Int) by omega) (show -9000000000000000000 ≤ lo ∧ lo ≤ 9000000000000000000 by omega), tdiv_small (show (0 : Int) < (Int.gcd lo ld : Int) by omega) (show -9000000000000000000 ≤ ld ∧ ld ≤ 9000000000000000000 by omega), tdiv_small (show (0 : Int) < (Int.gcd hi hd : Int) by omega) (show -9000000000000000000 ≤ hi ∧ hi ≤ 9000000000000000000 by omega), tdiv_small (show (0 : Int) < (Int.gcd hi hd : Int) by omega) (show -9000000000000000000 ≤ hd ∧ hd ≤ 9000000000000000000 by omega)]
      exact Ev.now _
    · apply Ev.succ
      simp only [impl_SlopesOf.j0, Bool.false_eq_true, if_false]
      refine Ev.bind e2 (Ev.bind ag ?_)
      simp only [if_neg (fun h => hc (c.2 ((cmp_nonneg _ _).1 h)))]
      refine Ev.bind (lowest_ev (show 0 < ld' by omega) (by omega) (by omega)) (Ev.bind (lowest_ev (show 0 < hd' by omega) (by omega) (by omega)) ?_)
      simp only [← low.1, ← low.2, ← high.1, ← high.2]
      exact Ev.now _
theorem FnExactSlopesOf : laws_FnExactSlopesOf.Pure := by
  intro s hs
  apply Ev.rounds
  unfold laws_FnExactSlopesOf.f
  by_cases h : (s.size : Int) > 1048576
  · simp only [if_pos h]
    exact Ev.now _
  · simp only [if_neg h]
    have key : ∃ r : Int × Int × Int × Int × Bool, Ev (fun k => spec_SlopesOf.f k s) r ∧ Ev (fun k => impl_SlopesOf.f k s) r := by
      have yes : ∃ r : Int × Int × Int × Int × Bool, Ev (fun k => spec_SlopesOf.j0 k s true) r ∧ Ev (fun k => impl_SlopesOf.j0 k s true) r := by
        refine ⟨(0, 0, 0, 0, false), ?_, ?_⟩
        · apply Ev.succ
          simp only [spec_SlopesOf.j0, if_true]
          exact Ev.now _
        · apply Ev.succ
          simp only [impl_SlopesOf.j0, if_true]
          exact Ev.now _
      have both : ∀ (b : Bool), (∃ r : Int × Int × Int × Int × Bool, Ev (fun k => spec_SlopesOf.j0 k s b) r ∧ Ev (fun k => impl_SlopesOf.j0 k s b) r) → WORD s = true → ((s.size : Int) == 0) = b → ∃ r : Int × Int × Int × Int × Bool, Ev (fun k => spec_SlopesOf.f k s) r ∧ Ev (fun k => impl_SlopesOf.f k s) r := by
        rintro b ⟨r, h1, h2⟩ hw hb
        refine ⟨r, ?_, ?_⟩
        · unfold spec_SlopesOf.f
          refine Ev.bind (sWORD_ev s (by omega)) ?_
          simp only [hw, if_true, hb]
          exact h1
        · unfold impl_SlopesOf.f
          simp only [iWORD_eq, Option.bind_some, hw, if_true, data_nil, hb]
          exact h2
      cases hw : WORD s with
      | false =>
        obtain ⟨r, h1, h2⟩ := yes
        refine ⟨r, ?_, ?_⟩
        · unfold spec_SlopesOf.f
          refine Ev.bind (sWORD_ev s (by omega)) ?_
          simp only [hw, Bool.false_eq_true, if_false]
          exact h1
        · unfold impl_SlopesOf.f
          simp only [iWORD_eq, Option.bind_some, hw, Bool.false_eq_true, if_false]
          exact h2
      | true =>
        by_cases h0 : s.size = 0
        · exact both true yes hw (by rw [h0]; rfl)
        · exact both false (slopes_both s hw (by omega)) hw (by simpa using h0)
    obtain ⟨r, h1, h2⟩ := key
    refine Ev.bind h1 (Ev.bind h2 ?_)
    simp only [if_true, bne_self_eq_false, Bool.false_eq_true, if_false]
    exact Ev.now _


end Go.Proofs.YtkmghekffehimaaDoor.Pure
