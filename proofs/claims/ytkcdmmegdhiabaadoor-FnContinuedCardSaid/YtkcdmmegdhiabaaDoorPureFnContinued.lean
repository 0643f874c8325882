/- Proved: the pure half of the law FnContinued: the printed functions answer true, for every input. No condition. -/
import Derived.Test.YtkcdmmegdhiabaaDoorPFnContinuedx5
import Derived.Test.YtkcdmmegdhiabaaDoorBase
import Derived.Test.YtkcdmmegdhiabaaDoorLists
import Derived.Test.YtkcdmmegdhiabaaDoorWords
import Derived.Test.YtkcdmmegdhiabaaDoorBalance
import Derived.Test.YtkcdmmegdhiabaaDoorGcd
import Derived.Test.YtkcdmmegdhiabaaDoorSlopes
import Derived.Test.YtkcdmmegdhiabaaDoorLine
import Derived.Test.YtkcdmmegdhiabaaDoorLineFor
import Derived.Test.YtkcdmmegdhiabaaDoorSource
import Derived.Test.YtkcdmmegdhiabaaDoorRepeat
namespace Go.Proofs.YtkcdmmegdhiabaaDoor.Pure
open Go.RowKit Go.Proofs.YtkcdmmegdhiabaaDoor.PFnContinued Go.Proofs.YtkcdmmegdhiabaaDoorW.PrintWords Go.Proofs.YtkcdmmegdhiabaaDoorW.PrintLast Go.Proofs.YtkcdmmegdhiabaaDoorW.PrintMore Go.Proofs.YtkcdmmegdhiabaaDoor.Base
set_option linter.unusedVariables false
set_option linter.unusedSimpArgs false

/-! impl.IsWord -/
theorem iWORD_eq (s : ByteArray) : impl_IsWord.f s = some (WORD s) := by
  unfold impl_IsWord.f WORD
  by_cases h : (s.size : Int) ≤ 120
  · have e : (Go.Lib.trimS s.data.toList [97, 98] == ([] : List UInt8)) = LET s := by
      rw [Bool.eq_iff_iff, beq_iff_eq, trim_nil, let_iff]
    simp only [if_pos h, strings_Trim.f, decide_eq_true h, Bool.and_true]
    rw [if_pos ⟨by first | trivial | rfl, by omega⟩, Option.bind_some]
    simp only [toListD]
    rw [e]
  · simp only [if_neg h, decide_eq_false h, Bool.and_false]

/-! impl.bit -/
theorem bit_eq (b : Bool) : impl_bit.f b = some (if b then 1 else 0) := by
  unfold impl_bit.f; cases b <;> rfl

/-! impl.heights -/
theorem iHT_l0 (s : ByteArray) (h1 : s.size ≤ 120) : ∀ (d i : Nat), d + i = s.size → Ev (fun k => impl_heights.l0 k s ((List.range (i + 1)).map (hgt s)) (s.size : Int) i) (HT s) := by
  intro d
  induction d with
  | zero =>
    intro i hd
    apply Ev.succ
    simp only [impl_heights.l0, if_neg (show ¬ (i : Int) < s.size by omega)]
    rw [show i = s.size by omega]
    exact Ev.now _
  | succ d ih =>
    intro i hd
    have hi : i < s.size := by omega
    have hr := hgt_range s i
    have e : wrap64 (hgt s i + (if (bt s (i : Int) == 98) = true then 1 else 0)) = hgt s (i + 1) := by
      rw [show hgt s (i + 1) = hgt s i + (if bt s (i : Int) = 98 then 1 else 0) from rfl]
      by_cases c : bt s (i : Int) = 98
      · rw [if_pos (by rw [c]; rfl), if_pos c, w64 (by omega) (by omega)]
      · rw [if_neg (by simpa using c), if_neg c, w64 (by omega) (by omega)]
    have := ih (i + 1) (by omega)
    rw [List.range_succ, List.map_append] at this
    apply Ev.succ
    simp only [impl_heights.l0, if_pos (show (i : Int) < s.size by omega), if_pos (show 0 ≤ (i : Int) by omega), List.length_map, List.length_range, if_pos (show (i : Int) < ((i + 1 : Nat) : Int) by omega), if_pos (show i + 1 < 17592186044416 by omega), ht_take_get s (show i < i + 1 by omega), bit_eq, Option.bind_some, e, inc hi (by omega)]
    exact this
theorem iHT_ev (s : ByteArray) (h1 : s.size ≤ 120) : Ev (fun k => impl_heights.f k s) (HT s) := iHT_l0 s h1 s.size 0 (by omega)

/-! impl.IsBalanced -/
theorem mx_maxB (a b : Int) : mx a b = max a b := by
  unfold mx; omega
theorem mn_minB (a b : Int) : mn a b = min a b := by
  unfold mn; omega
theorem iBAL_l1 (s : ByteArray) (h1 : s.size ≤ 120) (n : Nat) (hn : n ≤ s.size) {R : Bool} (hs : Ev (fun k => impl_IsBalanced.l0 k (HT s) ((s.size + 1 : Nat) : Int) ((n : Int) + 1)) R) : ∀ (e j : Nat) (a b : Int) (x : Int), x = (j : Int) + n → e + j = s.size + 1 - n → 0 ≤ a → a ≤ 120 → 0 ≤ b → b ≤ 120 → Ev (fun k => impl_IsBalanced.l1 k (HT s) n a b x ((s.size + 1 : Nat) : Int) n) (decide (mxG s n e j b - mnG s n e j a ≤ 1) && R) := by
  intro e
  induction e with
  | zero =>
    intro j a b x hx he a0 a1 b0 b1
    refine Ev.to ?_ (show (decide (b - a ≤ 1) && R) = _ from rfl)
    apply Ev.succ
    simp only [impl_IsBalanced.l1, ht_length, if_neg (show ¬ x < ((s.size + 1 : Nat) : Int) by omega), w64 (show (-9223372036854775808) ≤ b - a by omega) (by omega), w64 (show (-9223372036854775808) ≤ (n : Int) + 1 by omega) (by omega)]
    by_cases c : b - a > 1
    · simp only [if_pos c, decide_eq_false (show ¬ b - a ≤ 1 by omega), Bool.false_and]
      exact Ev.now _
    · simp only [if_neg c, decide_eq_true (show b - a ≤ 1 by omega), Bool.true_and]
      exact hs
  | succ e ih =>
    intro j a b x hx he a0 a1 b0 b1
    have hr := rise_range s n j
    have g1 := ht_get s (show j + n ≤ s.size by omega)
    have g2 := ht_get s (show j ≤ s.size by omega)
    have hj := hgt_range s j
    have hjn := hgt_range s (j + n)
    rw [show ((j + n : Nat) : Int) = x by omega] at g1
    apply Ev.succ
    simp only [impl_IsBalanced.l1, ht_length, if_pos (show x < ((s.size + 1 : Nat) : Int) by omega), if_pos (show 0 ≤ x by omega), show x - n = (j : Int) by omega, w64 (show (-9223372036854775808) ≤ (j : Int) by omega) (by omega), if_pos (show 0 ≤ (j : Int) by omega), if_pos (show (j : Int) < ((s.size + 1 : Nat) : Int) by omega), g1, g2, w64 (show (-9223372036854775808) ≤ hgt s (j + n) - hgt s j by omega) (by omega), mn_minB, mx_maxB, w64 (show (-9223372036854775808) ≤ x + 1 by omega) (by omega)]
    exact ih (j + 1) (min a (rise s n j)) (max b (rise s n j)) (x + 1) (by omega) (by omega) (by omega) (by omega) (by omega) (by omega)
theorem iBAL_l0 (s : ByteArray) (h1 : s.size ≤ 120) : ∀ (e n : Nat), e + n = s.size + 1 → Ev (fun k => impl_IsBalanced.l0 k (HT s) ((s.size + 1 : Nat) : Int) n) (((List.range (s.size + 1)).drop n).all (okN s)) := by
  intro e
  induction e with
  | zero =>
    intro n he
    apply Ev.succ
    simp only [impl_IsBalanced.l0, if_neg (show ¬ (n : Int) < ((s.size + 1 : Nat) : Int) by omega)]
    rw [drop_all_end _ (by omega)]
    exact Ev.now _
  | succ e ih =>
    intro n he
    have hh := hgt_range s n
    have := iBAL_l1 s h1 n (by omega) (ih (n + 1) (by omega)) (s.size + 1 - n) 0 (hgt s n) (hgt s n) n (by omega) (by omega) (by omega) (by omega) (by omega) (by omega)
    apply Ev.succ
    simp only [impl_IsBalanced.l0, ht_length, if_pos (show (n : Int) < ((s.size + 1 : Nat) : Int) by omega), if_pos (show 0 ≤ (n : Int) by omega), ht_get s (show n ≤ s.size by omega)]
    rw [drop_all _ (by omega)]
    exact this
def WBAL (s : ByteArray) : Bool := WORD s && BAL s
theorem iWBAL_ev (s : ByteArray) : Ev (fun k => impl_IsBalanced.f k s) (WBAL s) := by
  unfold impl_IsBalanced.f WBAL
  simp only [iWORD_eq, Option.bind_some]
  cases hw : WORD s with
  | false =>
    simp only [Bool.false_eq_true, if_false, Bool.false_and]
    exact Ev.now _
  | true =>
    have h1 := (word_facts hw).1
    simp only [if_true, Bool.true_and]
    refine Ev.bind (iHT_ev s h1) ?_
    rw [ht_length]
    refine (iBAL_l0 s h1 (s.size + 1) 0 (by omega)).to ?_
    rw [drop_all _ (by omega), okN_zero, Bool.true_and]
    rfl

/-! impl.within -/
theorem within_eq (a b c : Int) : impl_within.f a b c = some (decide (b ≤ a ∧ a ≤ c)) := by
  unfold impl_within.f
  by_cases h : b ≤ a
  · rw [if_pos h]; simp [h]
  · rw [if_neg h]; simp [h]

/-! impl.areWithin -/
theorem aw_l0 (l : List Int) (a b : Int) (hl : l.length ≤ 9223372036854775806) : ∀ (d i : Nat), d + i = l.length → ∃ r : Int, Ev (fun k => slices_IndexFunc_int64_int64_impl_areWithin_1.l0 k l (l.length : Int) i a b) r ∧ (decide (r ≥ 0) = !(l.drop i).all fun n => decide (a ≤ n ∧ n ≤ b)) := by
  intro d
  induction d with
  | zero =>
    intro i hd
    refine ⟨-1, ?_, ?_⟩
    · apply Ev.succ
      simp only [slices_IndexFunc_int64_int64_impl_areWithin_1.l0, if_neg (show ¬ (i : Int) < (l.length : Int) by omega)]
      exact Ev.now _
    · rw [List.drop_of_length_le (by omega)]; rfl
  | succ d ih =>
    intro i hd
    have hi : i < l.length := by omega
    obtain ⟨r, hr, he⟩ := ih (i + 1) (by omega)
    by_cases h : a ≤ l[i] ∧ l[i] ≤ b
    · refine ⟨r, ?_, ?_⟩
      · apply Ev.succ
        simp only [slices_IndexFunc_int64_int64_impl_areWithin_1.l0, if_pos (show (i : Int) < (l.length : Int) by omega), if_pos (show 0 ≤ (i : Int) by omega), rd_get hi, impl_areWithin_1.f, within_eq, decide_eq_true h, Option.bind_some, w64 (show (-9223372036854775808) ≤ (i : Int) + 1 by omega) (by omega)]
        simpa using hr
      · rw [he, List.drop_eq_getElem_cons hi, List.all_cons, decide_eq_true h, Bool.true_and]
    · refine ⟨i, ?_, ?_⟩
      · apply Ev.succ
        simp only [slices_IndexFunc_int64_int64_impl_areWithin_1.l0, if_pos (show (i : Int) < (l.length : Int) by omega), if_pos (show 0 ≤ (i : Int) by omega), rd_get hi, impl_areWithin_1.f, within_eq, decide_eq_false h, Option.bind_some]
        simpa using Ev.now _
      · rw [List.drop_eq_getElem_cons hi, List.all_cons, decide_eq_false h, Bool.false_and]; simp
theorem areWithin_ev (l : List Int) (a b : Int) (hl : l.length ≤ 9223372036854775806) : Ev (fun k => impl_areWithin.f k l a b) (l.all fun n => decide (a ≤ n ∧ n ≤ b)) := by
  obtain ⟨r, hr, he⟩ := aw_l0 l a b hl l.length 0 (by omega)
  unfold impl_areWithin.f
  simp only [slices_ContainsFunc_int64_int64_impl_areWithin_1.f, slices_IndexFunc_int64_int64_impl_areWithin_1.f]
  refine Ev.bind (Ev.bind hr (Ev.now _)) ?_
  refine (Ev.now _).to ?_
  rw [he, List.drop_zero, Bool.not_not]

/-! spec.l00In -/
theorem in_eq (a b c : Int) : spec_l00In.f a b c = some (decide (b ≤ a ∧ a ≤ c)) := by
  unfold spec_l00In.f
  by_cases h : b ≤ a
  · rw [if_pos (show a ≥ b from h)]; simp [h]
  · rw [if_neg (show ¬ a ≥ b from h)]; simp [h]

/-! the law -/
theorem rd_byteL {c : List Int} (hc : ∀ x ∈ c, 0 ≤ x ∧ x ≤ 255) (i : Int) : 0 ≤ rd c i ∧ rd c i ≤ 255 := by
  unfold rd
  by_cases h : i.toNat < c.length
  · rw [List.getD_eq_getElem?_getD, List.getElem?_eq_getElem h]
    exact hc _ (List.getElem_mem h)
  · rw [List.getD_eq_getElem?_getD, List.getElem?_eq_none (by omega)]
    simp
theorem at_ok {c : List Int} (hc : ∀ x ∈ c, 0 ≤ x ∧ x ≤ 255) {i n : Int} (h0 : 0 ≤ i ∧ i ≤ 100) (hn : 1 ≤ n ∧ n ≤ 1000) : ∃ v, laws_b10At.f c i n = some v ∧ 0 ≤ v ∧ v < n := by
  unfold laws_b10At.f
  by_cases c1 : n ≤ 1
  · rw [if_pos c1]; exact ⟨0, rfl, by omega, by omega⟩
  · rw [if_neg c1]
    have hm : ∀ x : Int, 0 ≤ x → 0 ≤ x.tmod n ∧ x.tmod n < n := fun x hx => ⟨Int.tmod_nonneg n hx, Int.tmod_lt_of_pos x (by omega)⟩
    by_cases c2 : i < (c.length : Int)
    · have hb := rd_byteL hc i
      rw [if_pos c2, if_pos h0.1, if_neg (by omega), w64 (by omega) (by omega)]
      exact ⟨_, rfl, (hm _ hb.1).1, (hm _ hb.1).2⟩
    · rw [if_neg c2, if_neg (by omega), w64 (show -9223372036854775808 ≤ i * 37 by omega) (by omega), w64 (by omega) (by omega)]
      exact ⟨_, rfl, (hm _ (by omega)).1, (hm _ (by omega)).2⟩
theorem bgcd_l0 : ∀ (n : Nat) (a b : Int), b.natAbs ≤ n → 0 ≤ a → 0 ≤ b → Ev (fun k => laws_b10Gcd.l0 k a b) (Int.gcd a b : Int) := by
  intro n
  induction n with
  | zero =>
    intro a b hn ha hb
    have e : b = 0 := by omega
    subst e
    apply Ev.succ
    simp only [laws_b10Gcd.l0, if_neg (show ¬ (0 : Int) > 0 by omega)]
    refine (Ev.now _).to ?_
    rw [Int.gcd_zero_right]
    omega
  | succ n ih =>
    intro a b hn ha hb
    by_cases hz : b = 0
    · subst hz
      apply Ev.succ
      simp only [laws_b10Gcd.l0, if_neg (show ¬ (0 : Int) > 0 by omega)]
      refine (Ev.now _).to ?_
      rw [Int.gcd_zero_right]
      omega
    · apply Ev.succ
      simp only [laws_b10Gcd.l0, if_pos (show b > 0 by omega), if_neg hz]
      have := tmod_abs_lt (a := a) hz
      exact (ih b (a.tmod b) (by omega) hb (Int.tmod_nonneg _ ha)).to (by rw [gcd_step])
theorem b10Gcd_ev (a b : Int) (ha : 0 ≤ a) (hb : 0 ≤ b) : Ev (fun k => laws_b10Gcd.f k a b) (Int.gcd a b : Int) := bgcd_l0 b.natAbs a b (Nat.le_refl _) ha hb
theorem cnt_hgt (s : ByteArray) : ∀ i, i ≤ s.size → (((s.data.toList.take i).count (98 : UInt8) : Nat) : Int) = hgt s i
  | 0, _ => by simp [hgt]
  | i + 1, h => by
    have ih := cnt_hgt s i (by omega)
    have hi : i < s.data.toList.length := by simpa using (show i < s.size by omega)
    rw [List.take_succ_eq_append_getElem hi, List.count_append, show hgt s (i + 1) = hgt s i + (if bt s (i : Int) = 98 then 1 else 0) from rfl, bt_nat s (show i < s.size by omega), Int.natCast_add, ih]
    by_cases c : s.data.toList[i] = 98
    · rw [c]; rfl
    · have h2 : ¬ ((s.data.toList[i].toNat : Int) = 98) := fun e => c (by
        apply UInt8.toNat_inj.1
        show s.data.toList[i].toNat = 98
        omega)
      rw [if_neg h2, List.count_singleton, beq_eq_false_iff_ne.2 c]
      rfl
/-- Continuants, from the last term on. -/
def bk : List Int → Int × Int
  | [] => (1, 0)
  | x :: xs => (x * (bk xs).1 + (bk xs).2, (bk xs).1)
theorem bk_pos : ∀ (l : List Int), (∀ x ∈ l, 1 ≤ x) → 1 ≤ (bk l).1 ∧ 0 ≤ (bk l).2
  | [], _ => ⟨Int.le_refl _, Int.le_refl _⟩
  | x :: l, h => by
    have h1 := bk_pos l (fun y hy => h y (List.mem_cons_of_mem _ hy))
    have h2 := h x List.mem_cons_self
    have h3 : 1 * 1 ≤ x * (bk l).1 := Int.mul_le_mul h2 h1.1 (by omega) (by omega)
    simp only [bk]
    omega
theorem bk_ge : ∀ (l : List Int) (m : Nat), (∀ x ∈ l, 1 ≤ x) → (bk (l.drop m)).1 ≤ (bk l).1
  | l, 0, _ => Int.le_refl _
  | [], m + 1, _ => Int.le_refl _
  | x :: l, m + 1, h => by
    have h0 : ∀ y ∈ l, 1 ≤ y := fun y hy => h y (List.mem_cons_of_mem _ hy)
    have h1 := bk_pos l h0
    have h2 := h x List.mem_cons_self
    have h3 : 1 * (bk l).1 ≤ x * (bk l).1 := Int.mul_le_mul_of_nonneg_right h2 (by omega)
    have h4 := bk_ge l m h0
    simp only [List.drop_succ_cons, bk]
    omega
/-- What comes of a list with its terms in their bounds. -/
def bkRes (a b : Int) : Int × Int × Bool := if a > 1000000000 ∨ b > 1000000000 then (0, 0, false) else (a, b, true)
theorem frd {xs : List Int} {i : Nat} : rd xs (i : Int) = xs.getD i 0 := by
  unfold rd; simp
theorem mulB {x a : Int} (hx : 0 ≤ x) (hx2 : x ≤ 1000000000) (ha : 0 ≤ a) (ha2 : a ≤ 1000000000) : 0 ≤ x * a ∧ x * a ≤ 1000000000000000000 :=
  ⟨Int.mul_nonneg hx ha, Int.mul_le_mul hx2 ha2 ha (by omega)⟩
theorem fc_fwd (l : List Int) (hl : l.length ≤ 20) : ∀ (xs : List Int) (i : Nat) (a b c d : Int), l.drop i = xs → (∀ x ∈ xs, 0 ≤ x ∧ x ≤ 1000000000) → (∀ x ∈ xs.tail, 1 ≤ x) → (0 ≤ a ∧ a ≤ 1000000000) → (0 ≤ b ∧ b ≤ 1000000000) → (0 ≤ c ∧ c ≤ 1000000000) → (0 ≤ d ∧ d ≤ 1000000000) → Ev (fun k => impl_FromContinued.l0 k a b c d l (l.length : Int) i) (bkRes (a * (bk xs).1 + c * (bk xs).2) (b * (bk xs).1 + d * (bk xs).2)) := by
  intro xs
  induction xs with
  | nil =>
    intro i a b c d hd _ _ ha hb hc hdd
    have hi : ¬ i < l.length := by
      intro h
      have := congrArg List.length hd
      simp at this
      omega
    apply Ev.succ
    simp only [impl_FromContinued.l0, if_neg (show ¬ (i : Int) < l.length by omega)]
    refine (Ev.now _).to ?_
    simp only [bk, bkRes, Int.mul_one, Int.mul_zero, Int.add_zero]
    rw [if_neg (by omega)]
  | cons x xs ih =>
    intro i a b c d hd h0 h1 ha hb hc hdd
    have hi : i < l.length := by
      have := congrArg List.length hd
      simp at this
      omega
    have hx : l.getD i 0 = x := by
      rw [List.drop_eq_getElem_cons hi] at hd
      simp only [List.cons.injEq] at hd
      simp [List.getD_eq_getElem?_getD, hi, hd.1]
    have hd2 : l.drop (i + 1) = xs := by
      rw [List.drop_eq_getElem_cons hi] at hd
      simp only [List.cons.injEq] at hd
      exact hd.2
    have hxb := h0 x List.mem_cons_self
    have p1 := mulB hxb.1 hxb.2 ha.1 ha.2
    have p2 := mulB hxb.1 hxb.2 hb.1 hb.2
    have hpos := bk_pos xs (by simpa using h1)
    have e1 : a * (bk (x :: xs)).1 + c * (bk (x :: xs)).2 = (x * a + c) * (bk xs).1 + a * (bk xs).2 := by
      simp only [bk, Int.mul_add, Int.add_mul, ← Int.mul_assoc, Int.mul_comm a x]; omega
    have e2 : b * (bk (x :: xs)).1 + d * (bk (x :: xs)).2 = (x * b + d) * (bk xs).1 + b * (bk xs).2 := by
      simp only [bk, Int.mul_add, Int.add_mul, ← Int.mul_assoc, Int.mul_comm b x]; omega
    have g1 : (x * a + c) * 1 ≤ (x * a + c) * (bk xs).1 := Int.mul_le_mul_of_nonneg_left hpos.1 (by omega)
    have g2 : (x * b + d) * 1 ≤ (x * b + d) * (bk xs).1 := Int.mul_le_mul_of_nonneg_left hpos.1 (by omega)
    have g3 : 0 ≤ a * (bk xs).2 := Int.mul_nonneg ha.1 hpos.2
    have g4 : 0 ≤ b * (bk xs).2 := Int.mul_nonneg hb.1 hpos.2
    apply Ev.succ
    simp only [impl_FromContinued.l0, if_pos (show (i : Int) < l.length by omega), if_pos (show 0 ≤ (i : Int) by omega), frd, hx, w64 (show (-9223372036854775808) ≤ x * a by omega) (by omega), w64 (show (-9223372036854775808) ≤ x * b by omega) (by omega), w64 (show (-9223372036854775808) ≤ x * a + c by omega) (by omega), w64 (show (-9223372036854775808) ≤ x * b + d by omega) (by omega), inc hi (by omega), e1, e2]
    by_cases c1 : x * a + c > 1000000000
    · simp only [if_pos c1]
      refine (Ev.now _).to ?_
      unfold bkRes
      rw [if_pos (by omega)]
    · by_cases c2 : x * b + d > 1000000000
      · simp only [if_neg c1, if_pos c2]
        refine (Ev.now _).to ?_
        unfold bkRes
        rw [if_pos (by omega)]
      · simp only [if_neg c1, if_neg c2]
        exact ih (i + 1) _ _ _ _ hd2 (fun y hy => h0 y (List.mem_cons_of_mem _ hy)) (fun y hy => h1 y (by simpa using List.mem_of_mem_tail hy)) ⟨by omega, by omega⟩ ⟨by omega, by omega⟩ ha hb
theorem bk_drop (l : List Int) (i : Nat) (h : i < l.length) : bk (l.drop i) = (l.getD i 0 * (bk (l.drop (i + 1))).1 + (bk (l.drop (i + 1))).2, (bk (l.drop (i + 1))).1) := by
  rw [List.drop_eq_getElem_cons h]
  simp [bk, List.getD_eq_getElem?_getD, h]
/-- The terms lie in their bounds. -/
def TM (l : List Int) : Bool := decide (0 ≤ l.headD 0 ∧ l.headD 0 ≤ 1000000000) && (l.drop 1).all fun x => decide (1 ≤ x ∧ x ≤ 1000000000)
def tmp (l : List Int) (i : Nat) : Bool := if i = 0 then decide (0 ≤ l.getD i 0 ∧ l.getD i 0 ≤ 1000000000) else decide (1 ≤ l.getD i 0 ∧ l.getD i 0 ≤ 1000000000)
theorem tm_range (l : List Int) (h : 1 ≤ l.length) : (List.range l.length).all (tmp l) = TM l := by
  cases l with
  | nil => simp at h
  | cons x xs =>
    rw [List.length_cons, List.range_succ_eq_map, List.all_cons, List.all_map, TM, List.drop_one, List.tail_cons, ← all_range xs _ 0]
    rfl
theorem tm_facts {l : List Int} (h : TM l = true) (hn : 1 ≤ l.length) : (∀ x ∈ l, 0 ≤ x ∧ x ≤ 1000000000) ∧ (∀ x ∈ l.drop 1, 1 ≤ x) := by
  cases l with
  | nil => simp at hn
  | cons y xs =>
    simp only [TM, List.headD_cons, List.drop_one, List.tail_cons, Bool.and_eq_true, List.all_eq_true, decide_eq_true_iff] at h
    refine ⟨fun x hx => ?_, fun x hx => (h.2 x (by simpa using hx)).1⟩
    rcases List.mem_cons.1 hx with rfl | hx
    · exact of_decide_eq_true h.1
    · have := h.2 x hx; omega
def FC (l : List Int) : Int × Int × Bool := if 1 ≤ l.length ∧ l.length ≤ 20 ∧ ¬ (1 < l.length ∧ l.getD (l.length - 1) 0 = 1) then (if TM l then bkRes (bk l).1 (bk l).2 else (0, 0, false)) else (0, 0, false)
theorem lastrd (l : List Int) (h : 1 ≤ l.length) : rd l ((l.length : Int) - 1) = l.getD (l.length - 1) 0 := by
  rw [show (l.length : Int) - 1 = ((l.length - 1 : Nat) : Int) by omega, frd]
theorem terms_ev (l : List Int) (hn : 1 ≤ l.length) (hl : l.length ≤ 20) : Ev (fun k => impl_areTerms.f k l 1000000000) (TM l) := by
  unfold impl_areTerms.f TM
  have hh : rd l 0 = l.headD 0 := by cases l <;> rfl
  simp only [if_neg (show ¬ (l.length : Int) > 20 by omega), if_pos (show (l.length : Int) > 0 by omega), if_pos (show 0 < (l.length : Int) by omega), within_eq, Option.bind_some, hh, if_neg (show ¬ (l.length : Int) = 0 by omega), if_pos (show 1 ≤ (l.length : Int) by omega)]
  by_cases h : 0 ≤ l.headD 0 ∧ l.headD 0 ≤ 1000000000
  · simp only [decide_eq_true h, if_true, Bool.true_and]
    exact Ev.bind (areWithin_ev (l.drop 1) 1 1000000000 (by simp; omega)) (Ev.now _)
  · simp only [decide_eq_false h, Bool.false_eq_true, if_false, Bool.false_and]
    exact Ev.now _
theorem terms_no (l : List Int) (h : l.length > 20) : Ev (fun k => impl_areTerms.f k l 1000000000) false := by
  unfold impl_areTerms.f
  simp only [if_pos (show (l.length : Int) > 20 by omega)]
  exact Ev.now _
theorem fc_impl0 (l : List Int) (hn : 1 ≤ l.length) (hl : l.length ≤ 20) (h : TM l = true) : Ev (fun k => impl_FromContinued.l0 k 1 0 0 1 l (l.length : Int) 0) (bkRes (bk l).1 (bk l).2) := by
  obtain ⟨f1, f2⟩ := tm_facts h hn
  refine (fc_fwd l hl l 0 1 0 0 1 rfl f1 (by simpa using f2) ⟨by omega, by omega⟩ ⟨by omega, by omega⟩ ⟨by omega, by omega⟩ ⟨by omega, by omega⟩).to ?_
  simp only [Int.one_mul, Int.zero_mul, Int.add_zero, Int.zero_add]
theorem fc_impl (l : List Int) (hm : l.length ≤ 1048576) : Ev (fun k => impl_FromContinued.f k l) (FC l) := by
  unfold impl_FromContinued.f FC
  simp only [w64 (show (-9223372036854775808) ≤ (l.length : Int) - 1 by omega) (by omega)]
  by_cases h1 : l.length < 1
  · simp only [if_pos (show (l.length : Int) - 1 < 0 by omega), if_neg (show ¬ (1 ≤ l.length ∧ l.length ≤ 20 ∧ ¬ (1 < l.length ∧ l.getD (l.length - 1) 0 = 1)) by omega)]
    apply Ev.succ
    simp only [impl_FromContinued.j0, if_true]
    exact Ev.now _
  · simp only [if_neg (show ¬ (l.length : Int) - 1 < 0 by omega)]
    by_cases h2 : l.length > 20
    · rw [if_neg (by omega)]
      refine Ev.bind (terms_no l h2) ?_
      simp only [Bool.false_eq_true, if_false]
      apply Ev.succ
      simp only [impl_FromContinued.j0, if_true]
      exact Ev.now _
    · refine Ev.bind (terms_ev l (by omega) (by omega)) ?_
      cases ht : TM l with
      | false =>
        simp only [Bool.false_eq_true, if_false, ite_self]
        apply Ev.succ
        simp only [impl_FromContinued.j0, if_true]
        exact Ev.now _
      | true =>
        simp only [if_true]
        by_cases h3 : l.length > 1
        · simp only [if_pos (show (l.length : Int) - 1 > 0 by omega), if_pos (show 0 ≤ (l.length : Int) - 1 by omega), if_pos (show (l.length : Int) - 1 < l.length by omega), lastrd l (by omega)]
          by_cases h4 : l.getD (l.length - 1) 0 = 1
          · rw [if_neg (fun h => h.2.2 ⟨by omega, h4⟩)]
            apply Ev.succ
            simp only [impl_FromContinued.j0, h4, beq_self_eq_true, if_true]
            exact Ev.now _
          · rw [if_pos ⟨by omega, by omega, fun h => h4 h.2⟩]
            apply Ev.succ
            have h5 : (l.getD (l.length - 1) 0 == 1) = false := by simpa using h4
            simp only [impl_FromContinued.j0, h5, Bool.false_eq_true, if_false]
            exact fc_impl0 l (by omega) (by omega) ht
        · simp only [if_neg (show ¬ (l.length : Int) - 1 > 0 by omega)]
          rw [if_pos ⟨by omega, by omega, fun h => h3 h.1⟩]
          apply Ev.succ
          simp only [impl_FromContinued.j0, Bool.false_eq_true, if_false]
          exact fc_impl0 l (by omega) (by omega) ht
def cfL : Nat → Nat → Nat → List Int
  | 0, _, _ => []
  | n + 1, a, b => if b = 0 then [] else ((a / b : Nat) : Int) :: cfL n b (a % b)
theorem cf_bk : ∀ (n a b : Nat), b ≤ n → ∃ p q : Nat, bk (cfL (n + 1) a b) = ((p : Int), (q : Int)) ∧ p * Nat.gcd a b = a ∧ q * Nat.gcd a b = b := by
  intro n
  induction n with
  | zero =>
    intro a b h
    have e : b = 0 := by omega
    subst e
    exact ⟨1, 0, rfl, by rw [Nat.gcd_zero_right, Nat.one_mul], Nat.zero_mul _⟩
  | succ n ih =>
    intro a b h
    by_cases hz : b = 0
    · subst hz
      exact ⟨1, 0, rfl, by rw [Nat.gcd_zero_right, Nat.one_mul], Nat.zero_mul _⟩
    · have hm := Nat.mod_lt a (show b > 0 by omega)
      obtain ⟨p, q, e, hp, hq⟩ := ih b (a % b) (by omega)
      have hg : Nat.gcd b (a % b) = Nat.gcd a b := by rw [Nat.gcd_comm b, ← Nat.gcd_rec, Nat.gcd_comm]
      rw [hg] at hp hq
      refine ⟨a / b * p + q, p, ?_, ?_, hp⟩
      · rw [cfL, if_neg hz, bk, e]
        simp
      · rw [Nat.add_mul, Nat.mul_assoc, hp, hq, Nat.mul_comm]
        exact Nat.div_add_mod a b
def fibN : Nat → Nat
  | 0 => 0
  | 1 => 1
  | n + 2 => fibN (n + 1) + fibN n
theorem cf_len : ∀ (m n a b : Nat), b < a → m ≤ (cfL n a b).length → fibN (m + 2) ≤ a ∧ fibN (m + 1) ≤ b ∨ m = 0 := by
  intro m
  induction m with
  | zero => intro n a b _ _; exact .inr rfl
  | succ m ih =>
    intro n a b hb hl
    left
    match n with
    | 0 => simp [cfL] at hl
    | n + 1 =>
      by_cases hz : b = 0
      · rw [cfL, if_pos hz] at hl; simp at hl
      · rw [cfL, if_neg hz, List.length_cons] at hl
        have hm := Nat.mod_lt a (show b > 0 by omega)
        have hda := Nat.div_add_mod a b
        have h1 : 1 ≤ a / b := Nat.div_pos (by omega) (by omega)
        have h2 := Nat.mul_le_mul_left b h1
        rcases ih n b (a % b) hm (by omega) with ⟨k1, k2⟩ | rfl
        · have e1 : fibN (m + 1 + 2) = fibN (m + 2) + fibN (m + 1) := rfl
          exact ⟨by omega, k1⟩
        · exact ⟨show 2 ≤ a by omega, show 1 ≤ b by omega⟩
theorem cf_tail : ∀ (n a b : Nat), b < a → ∀ x ∈ cfL n a b, 1 ≤ x ∧ x ≤ (a : Int) := by
  intro n
  induction n with
  | zero => intro a b _ x hx; cases hx
  | succ n ih =>
    intro a b hb x hx
    by_cases hz : b = 0
    · rw [cfL, if_pos hz] at hx; cases hx
    · rw [cfL, if_neg hz] at hx
      have hm := Nat.mod_lt a (show b > 0 by omega)
      have h1 : 1 ≤ a / b := Nat.div_pos (by omega) (by omega)
      have h2 := Nat.div_le_self a b
      rcases List.mem_cons.1 hx with rfl | hx
      · omega
      · have := ih b (a % b) hm x hx
        omega
theorem cf_last : ∀ (n a b : Nat), b ≤ n → 1 ≤ b → b < a → (cfL (n + 1) a b).getLast? ≠ some 1 := by
  intro n
  induction n with
  | zero => intro a b h1 h2; omega
  | succ n ih =>
    intro a b hn h1 hb
    have hm := Nat.mod_lt a (show b > 0 by omega)
    rw [cfL, if_neg (by omega)]
    by_cases hz : a % b = 0
    · rw [hz, show cfL (n + 1) b 0 = [] by rw [cfL, if_pos rfl], List.getLast?_singleton]
      intro e
      have e2 : ((a / b : Nat) : Int) = 1 := Option.some.inj e
      have hda := Nat.div_add_mod a b
      have : a / b = 1 := by omega
      rw [this] at hda
      omega
    · have := ih b (a % b) (by omega) (by omega) hm
      have hne : cfL (n + 1) b (a % b) ≠ [] := by rw [cfL, if_neg hz]; simp
      rw [List.getLast?_cons]
      intro e
      apply this
      rw [List.getLast?_eq_some_getLast hne] at e ⊢
      simpa using e
theorem sw_rd {xs : List Int} {i : Nat} : rd xs (i : Int) = xs.getD i 0 := by
  unfold rd; simp
def swLow (i : Nat) : Int := if i = 0 then 0 else 1
def swOk (l : List Int) (i : Nat) : Bool := decide (swLow i ≤ l.getD i 0 ∧ l.getD i 0 ≤ 120)
abbrev SWB : ByteArray × Bool := ((⟨#[]⟩ : ByteArray), false)
theorem sw_l1 (x0 : List Int) (bs nw : ByteArray) (i v : Nat) (hi : i < x0.length) (hv : x0.getD i 0 = (v : Int)) (hv2 : v ≤ 120) (hb : bs.size ≤ 120) (hn : nw.size ≤ 120) {R : ByteArray × Bool}
    (hR : v * nw.size + bs.size ≤ 120 → Ev (fun k => spec_StandardWord.l0 k x0 nw (repB nw v ++ bs) (wrap64 ((i : Int) + 1))) R) (hF : 120 < v * nw.size + bs.size → R = SWB) :
    ∀ (d c : Nat), d + c = v → Ev (fun k => spec_StandardWord.l1 k x0 bs nw i (repB nw c) c) R := by
  intro d
  induction d with
  | zero =>
    intro c hd
    have hc : c = v := by omega
    subst hc
    have hs := repB_size nw c
    have hm := rep_le hv2 hn
    have ha : (repB nw c ++ bs).size = (repB nw c).size + bs.size := ByteArray.size_append
    apply Ev.succ
    simp only [spec_StandardWord.l1, if_pos (show 0 ≤ (i : Int) by omega), if_pos (show (i : Int) < x0.length by omega), sw_rd, hv, if_neg (show ¬ (c : Int) < (c : Int) by omega), if_pos (show (repB nw c).size + bs.size ≤ 9223372036854775807 by omega)]
    by_cases q : c * nw.size + bs.size ≤ 120
    · simp only [if_neg (show ¬ ((repB nw c ++ bs).size : Int) > 120 by omega)]
      exact hR q
    · simp only [if_pos (show ((repB nw c ++ bs).size : Int) > 120 by omega)]
      rw [hF (by omega)]
      exact Ev.now _
  | succ d ih =>
    intro c hd
    have hs := repB_size nw c
    have hm := rep_le hv2 hn
    have hm2 := rep_le (show c ≤ v by omega) (Nat.le_refl nw.size)
    have ha : (repB nw c ++ bs).size = (repB nw c).size + bs.size := ByteArray.size_append
    apply Ev.succ
    simp only [spec_StandardWord.l1, if_pos (show 0 ≤ (i : Int) by omega), if_pos (show (i : Int) < x0.length by omega), sw_rd, hv, if_pos (show (c : Int) < (v : Int) by omega), if_pos (show (repB nw c).size + bs.size ≤ 9223372036854775807 by omega), if_pos (show (repB nw c).size + nw.size ≤ 9223372036854775807 by omega)]
    by_cases q : (repB nw c).size ≤ 120
    · simp only [if_pos (show ((repB nw c).size : Int) ≤ 120 by omega), repB_succ, inc (show c < v by omega) (by omega)]
      exact ih (c + 1) (by omega)
    · simp only [if_neg (show ¬ ((repB nw c).size : Int) ≤ 120 by omega), if_pos (show ((repB nw c ++ bs).size : Int) > 120 by omega)]
      rw [hF (by omega)]
      exact Ev.now _
theorem sw_step (x0 : List Int) (bs nw : ByteArray) (i : Nat) (hi : i < x0.length) (hb : bs.size ≤ 120) (hn : nw.size ≤ 120) {R : ByteArray × Bool}
    (hbad : swOk x0 i = false → R = SWB)
    (hR : swOk x0 i = true → ∀ v : Nat, x0.getD i 0 = (v : Int) → v * nw.size + bs.size ≤ 120 → Ev (fun k => spec_StandardWord.l0 k x0 nw (repB nw v ++ bs) (wrap64 ((i : Int) + 1))) R)
    (hF : ∀ v : Nat, x0.getD i 0 = (v : Int) → 120 < v * nw.size + bs.size → R = SWB) : Ev (fun k => spec_StandardWord.l0 k x0 bs nw i) R := by
  have hj : Ev (fun k => spec_StandardWord.j1 k x0 bs nw i (swLow i)) R := by
    apply Ev.succ
    simp only [spec_StandardWord.j1, if_pos (show 0 ≤ (i : Int) by omega), if_pos (show (i : Int) < x0.length by omega), sw_rd, in_eq, Option.bind_some]
    cases h : swOk x0 i with
    | false =>
      rw [hbad h]
      unfold swOk at h
      simp only [h, Bool.false_eq_true, if_false]
      exact Ev.now _
    | true =>
      have h2 := h
      unfold swOk at h
      simp only [h, if_true]
      have h3 := of_decide_eq_true h
      have h4 : 0 ≤ swLow i := by unfold swLow; split <;> omega
      obtain ⟨v, hv⟩ : ∃ v : Nat, x0.getD i 0 = (v : Int) := ⟨(x0.getD i 0).toNat, by omega⟩
      have := sw_l1 x0 bs nw i v hi hv (by omega) hb hn (hR h2 v hv) (hF v hv) v 0 (by omega)
      rw [repB_zero] at this
      exact this
  apply Ev.succ
  simp only [spec_StandardWord.l0, if_pos (show (i : Int) < x0.length by omega)]
  by_cases c : i = 0
  · subst c
    simp only [if_pos (show ((0 : Nat) : Int) = 0 by omega)]
    exact hj
  · simp only [if_neg (show ¬ (i : Int) = 0 by omega)]
    rw [show swLow i = 1 by unfold swLow; rw [if_neg c]] at hj
    exact hj
theorem sw_bad (x0 : List Int) (j : Nat) (hj : j < x0.length) (hb0 : swOk x0 j = false) (hl : x0.length ≤ 20) : ∀ (d i : Nat) (bs nw : ByteArray), d + i = j → bs.size ≤ 120 → nw.size ≤ 120 → Ev (fun k => spec_StandardWord.l0 k x0 bs nw i) SWB := by
  intro d
  induction d with
  | zero =>
    intro i bs nw hd hb hn
    have e : i = j := by omega
    subst e
    exact sw_step x0 bs nw i (by omega) hb hn (fun _ => rfl) (fun h => absurd (hb0.symm.trans h) (by decide)) (fun _ _ _ => rfl)
  | succ d ih =>
    intro i bs nw hd hb hn
    refine sw_step x0 bs nw i (by omega) hb hn (fun _ => rfl) (fun _ v hv q => ?_) (fun _ _ _ => rfl)
    rw [inc (show i < x0.length by omega) (by omega)]
    have ha : (repB nw v ++ bs).size = (repB nw v).size + bs.size := ByteArray.size_append
    have hs := repB_size nw v
    exact ih (i + 1) nw (repB nw v ++ bs) (by omega) hn (by omega)
/-- The numbers are terms. -/
def TMS (l : List Int) : Bool := (List.range l.length).all (swOk l)
theorem tms_ev (l : List Int) (hl : l.length ≤ 20) : Ev (fun k => impl_areTerms.f k l 120) (TMS l) := by
  unfold impl_areTerms.f
  cases l with
  | nil =>
    simp only [List.length_nil]
    exact Ev.now _
  | cons x l =>
    have e : TMS (x :: l) = (decide (0 ≤ x ∧ x ≤ 120) && l.all fun n => decide (1 ≤ n ∧ n ≤ 120)) := by
      unfold TMS
      rw [List.length_cons, List.range_succ_eq_map, List.all_cons, List.all_map]
      congr 1
      rw [← all_range l (fun n => decide (1 ≤ n ∧ n ≤ 120)) 0]
      rfl
    rw [e]
    simp only [List.length_cons] at hl
    simp only [List.length_cons, if_neg (show ¬ ((l.length + 1 : Nat) : Int) > 20 by omega), if_pos (show ((l.length + 1 : Nat) : Int) > 0 by omega), if_pos (show 0 < ((l.length + 1 : Nat) : Int) by omega), show rd (x :: l) 0 = x from rfl, within_eq, Option.bind_some, if_neg (show ¬ ((l.length + 1 : Nat) : Int) = 0 by omega), if_pos (show 1 ≤ ((l.length + 1 : Nat) : Int) by omega), List.drop_succ_cons, List.drop_zero]
    by_cases c : 0 ≤ x ∧ x ≤ 120
    · simp only [decide_eq_true c, if_true, Bool.true_and]
      exact Ev.bind (areWithin_ev l 1 120 (by omega)) (Ev.now _)
    · simp only [decide_eq_false c, Bool.false_eq_true, if_false, Bool.false_and]
      exact Ev.now _
def ch (b : Bool) : UInt8 := if b then 98 else 97
def repW (l : List Bool) : Nat → List Bool
  | 0 => []
  | c + 1 => repW l c ++ l
def stp (s : List Bool × List Bool) (n : Nat) : List Bool × List Bool := (s.2, repW s.2 n ++ s.1)
def stdP (l : List Nat) : List Bool × List Bool := l.foldl stp ([true], [false])
def cntB : List Bool → Nat
  | [] => 0
  | b :: l => (if b then 1 else 0) + cntB l
def fitsW (a x n : Nat) : Nat → Nat → List Bool → Bool
  | i, h, [] => Nat.beq ((i * a + x) / n) h
  | i, h, b :: l => Nat.beq ((i * a + x) / n) h && fitsW a x n (i + 1) (if b then h + 1 else h) l
def chkW (W : List Bool) : Bool := Nat.ble 1 W.length && (Nat.ble W.length 1000 && (Nat.blt (cntB W) W.length && (fitsW (cntB W) (cntB W) W.length 0 0 W || (Nat.ble 1 (cntB W) && fitsW (cntB W) (cntB W - 1) W.length 0 0 W))))
def lists3 : Nat → List (List Nat)
  | 0 => [[]]
  | k + 1 => (lists3 k).flatMap fun l => [1 :: l, 2 :: l, 3 :: l]
theorem std_all : ((List.range 5).all fun k => (lists3 k).all fun l => chkW (stdP l).2 && Nat.ble (stdP l).1.length 1000) = true := by decide +kernel
theorem mem3 : ∀ (l : List Nat), (∀ x ∈ l, 1 ≤ x ∧ x ≤ 3) → l ∈ lists3 l.length
  | [], _ => List.mem_singleton.2 rfl
  | x :: l, h => by
    have ih := mem3 l (fun y hy => h y (List.mem_cons_of_mem _ hy))
    have hx := h x List.mem_cons_self
    show x :: l ∈ (lists3 l.length).flatMap fun l => [1 :: l, 2 :: l, 3 :: l]
    refine List.mem_flatMap.2 ⟨l, ih, ?_⟩
    rcases (show x = 1 ∨ x = 2 ∨ x = 3 by omega) with rfl | rfl | rfl <;> simp
theorem std_at (l : List Nat) (hl : l.length ≤ 4) (h : ∀ x ∈ l, 1 ≤ x ∧ x ≤ 3) : chkW (stdP l).2 = true ∧ (stdP l).1.length ≤ 1000 := by
  have h1 := List.all_eq_true.1 (List.all_eq_true.1 std_all l.length (List.mem_range.2 (by omega))) l (mem3 l h)
  rw [Bool.and_eq_true] at h1
  exact ⟨h1.1, Nat.ble_eq.mp h1.2⟩
theorem cnt_map : ∀ (W : List Bool), ((W.map ch).count (98 : UInt8)) = cntB W
  | [] => rfl
  | true :: W => by
    have ih := cnt_map W
    rw [List.map_cons, show ch true = 98 from rfl, List.count_cons_self, ih]
    show cntB W + 1 = 1 + cntB W
    omega
  | false :: W => by
    have ih := cnt_map W
    rw [List.map_cons, show ch false = 97 from rfl, List.count_cons_of_ne (by decide), ih]
    show cntB W = 0 + cntB W
    omega
theorem fits_get (a x n : Nat) : ∀ (W : List Bool) (i h : Nat), fitsW a x n i h W = true → ∀ j, j ≤ W.length → ((i + j) * a + x) / n = h + cntB (W.take j)
  | [], i, h, hf, j, hj => by
    have : j = 0 := by simpa using hj
    subst this
    exact Nat.eq_of_beq_eq_true hf
  | b :: W, i, h, hf, j, hj => by
    simp only [fitsW, Bool.and_eq_true] at hf
    match j with
    | 0 => exact Nat.eq_of_beq_eq_true hf.1
    | j + 1 =>
      have := fits_get a x n W (i + 1) _ hf.2 j (by simpa using hj)
      rw [show i + (j + 1) = i + 1 + j by omega, this, List.take_succ_cons]
      cases b
      · show h + cntB (W.take j) = h + (0 + cntB (W.take j))
        omega
      · show h + 1 + cntB (W.take j) = h + (1 + cntB (W.take j))
        omega
theorem std_bal (S : ByteArray) (W : List Bool) (hS : S.data.toList = W.map ch) (hc : chkW W = true) (h120 : S.size ≤ 120) : WBAL S = true ∧ S.size = W.length := by
  have hsz : S.size = W.length := by
    have := congrArg List.length hS
    simpa using this
  simp only [chkW, Bool.and_eq_true, Bool.or_eq_true] at hc
  obtain ⟨c0, _, c1, c2⟩ := hc
  have d0 := Nat.ble_eq.mp c0
  have d1 := Nat.blt_eq.mp c1
  have hh : ∀ i : Nat, i ≤ S.size → hgt S i = ((cntB (W.take i) : Nat) : Int) := by
    intro i hi
    rw [← cnt_hgt S i hi, hS, ← List.map_take, cnt_map]
  have key : ∃ x : Nat, x ≤ W.length - 1 ∧ ∀ j, j ≤ W.length → (j * cntB W + x) / W.length = cntB (W.take j) := by
    rcases c2 with c2 | ⟨c3, c2⟩
    · refine ⟨cntB W, by omega, fun j hj => ?_⟩
      have := fits_get _ _ _ W 0 0 c2 j hj
      rwa [Nat.zero_add, Nat.zero_add] at this
    · refine ⟨cntB W - 1, by omega, fun j hj => ?_⟩
      have := fits_get _ _ _ W 0 0 c2 j hj
      rwa [Nat.zero_add, Nat.zero_add] at this
  obtain ⟨x, hx, hk⟩ := key
  have hF : FITS S ((W.length : Nat) : Int) ((cntB W : Nat) : Int) ((x : Nat) : Int) := by
    refine floor_fits (by omega) (by omega) (by omega) (fun i hi => ?_)
    rw [hh i hi, ← hk i (by omega), Int.natCast_ediv, Int.natCast_add, Int.natCast_mul]
  have hW : WORD S = true := by
    unfold WORD
    rw [Bool.and_eq_true]
    refine ⟨(let_iff S).2 (fun y hy => ?_), decide_eq_true (by omega)⟩
    rw [hS] at hy
    obtain ⟨b, _, rfl⟩ := List.mem_map.1 hy
    cases b
    · exact .inl rfl
    · exact .inr rfl
  refine ⟨?_, hsz⟩
  rw [WBAL, hW, fits_bal (by omega) hF]
  rfl
theorem rep_map (l : List Bool) : ∀ c, Go.Lib.repeatL (l.map ch) c = (repW l c).map ch
  | 0 => rep_zero _
  | c + 1 => by rw [rep_succ, rep_map l c, repW, List.map_append]
theorem sw_val (x0 : List Int) (hl : x0.length ≤ 20) (hall : ∀ j, j < x0.length → swOk x0 j = true) : ∀ (d i : Nat) (bs nw : ByteArray) (b w : List Bool), d + i = x0.length → bs.size ≤ 120 → nw.size ≤ 120 → bs.data.toList = b.map ch → nw.data.toList = w.map ch → ∃ R : ByteArray × Bool, Ev (fun k => spec_StandardWord.l0 k x0 bs nw i) R ∧ Ev (fun k => impl_StandardWord.l0 k bs nw x0 (x0.length : Int) i) R ∧ (R.2 = true → R.1.size ≤ 120 ∧ R.1.data.toList = (((x0.drop i).map Int.toNat).foldl stp (b, w)).2.map ch) := by
  intro d
  induction d with
  | zero =>
    intro i bs nw b w hd hb hn eb ew
    refine ⟨(nw, true), ?_, ?_, fun _ => ⟨hn, ?_⟩⟩
    · apply Ev.succ
      simp only [spec_StandardWord.l0, if_neg (show ¬ (i : Int) < x0.length by omega)]
      exact Ev.now _
    · apply Ev.succ
      simp only [impl_StandardWord.l0, if_neg (show ¬ (i : Int) < x0.length by omega)]
      exact Ev.now _
    · rw [List.drop_of_length_le (by omega)]
      exact ew
  | succ d ih =>
    intro i bs nw b w hd hb hn eb ew
    have hi : i < x0.length := by omega
    have hok := hall i hi
    have hok2 := of_decide_eq_true hok
    have h4 : 0 ≤ swLow i := by unfold swLow; split <;> omega
    obtain ⟨v, hv⟩ : ∃ v : Nat, x0.getD i 0 = (v : Int) := ⟨(x0.getD i 0).toNat, by omega⟩
    have ha : (repB nw v ++ bs).size = (repB nw v).size + bs.size := ByteArray.size_append
    have hs := repB_size nw v
    have hm := rep_le (show v ≤ 120 by omega) hn
    have hm2 := Nat.mul_comm v nw.size
    have hrep : strings_Repeat.f nw (v : Int) = some (repB nw v) := by
      unfold strings_Repeat.f
      rw [Int.toNat_natCast, if_pos ⟨by omega, by omega, by omega⟩]
      rfl
    by_cases q : v * nw.size + bs.size ≤ 120
    · have e3 : (repB nw v ++ bs).data.toList = (repW w v ++ b).map ch := by
        rw [ByteArray.data_append, Array.toList_append, eb, List.map_append, ← rep_map, ← ew]
        rfl
      obtain ⟨R, r1, r2, r3⟩ := ih (i + 1) nw (repB nw v ++ bs) w (repW w v ++ b) (by omega) hn (by omega) ew e3
      refine ⟨R, ?_, ?_, fun hR => ?_⟩
      · refine sw_step x0 bs nw i (by omega) hb hn (fun h => absurd (hok.symm.trans h) (by decide)) (fun _ u hu _ => ?_) (fun u hu hq => ?_)
        · have e : u = v := by omega
          subst e
          rw [inc (show i < x0.length by omega) (by omega)]
          exact r1
        · have e : u = v := by omega
          subst e
          omega
      · apply Ev.succ
        simp only [impl_StandardWord.l0, if_pos (show (i : Int) < x0.length by omega), if_pos (show 0 ≤ (i : Int) by omega), sw_rd, hv, hrep, Option.bind_some, if_pos (show (repB nw v).size + bs.size ≤ 9223372036854775807 by omega), if_neg (show ¬ ((repB nw v ++ bs).size : Int) > 120 by omega), inc (show i < x0.length by omega) (by omega)]
        exact r2
      · refine ⟨(r3 hR).1, (r3 hR).2.trans ?_⟩
        have hg : x0[i] = (v : Int) := by
          rw [← hv, List.getD_eq_getElem?_getD, List.getElem?_eq_getElem hi]
          rfl
        rw [List.drop_eq_getElem_cons hi, List.map_cons, List.foldl_cons, hg, Int.toNat_natCast]
        rfl
    · refine ⟨SWB, ?_, ?_, fun hR => by cases hR⟩
      · refine sw_step x0 bs nw i (by omega) hb hn (fun _ => rfl) (fun _ u hu hq => ?_) (fun _ _ _ => rfl)
        have e : u = v := by omega
        subst e
        omega
      · apply Ev.succ
        simp only [impl_StandardWord.l0, if_pos (show (i : Int) < x0.length by omega), if_pos (show 0 ≤ (i : Int) by omega), sw_rd, hv, hrep, Option.bind_some, if_pos (show (repB nw v).size + bs.size ≤ 9223372036854775807 by omega), if_pos (show ((repB nw v ++ bs).size : Int) > 120 by omega)]
        exact Ev.now _
theorem impl_cf : ∀ (n a b : Nat) (acc : List Int), b ≤ n → a ≤ 1000000000 → b ≤ 1000000000 → acc.length + n ≤ 2000000000 → Ev (fun k => impl_ContinuedOf.l0 k (a : Int) (b : Int) acc) (acc ++ cfL (n + 1) a b, true) := by
  intro n
  induction n with
  | zero =>
    intro a b acc hb _ _ _
    have e : b = 0 := by omega
    subst e
    apply Ev.succ
    simp only [impl_ContinuedOf.l0, if_pos (show ((0 : Nat) : Int) = 0 by omega)]
    refine (Ev.now _).to ?_
    rw [cfL, if_pos rfl, List.append_nil]
  | succ n ih =>
    intro a b acc hb h1 h2 h3
    by_cases hz : b = 0
    · subst hz
      apply Ev.succ
      simp only [impl_ContinuedOf.l0, if_pos (show ((0 : Nat) : Int) = 0 by omega)]
      refine (Ev.now _).to ?_
      rw [cfL, if_pos rfl, List.append_nil]
    · have hm := Nat.mod_lt a (show b > 0 by omega)
      have hd := Nat.div_le_self a b
      have := ih b (a % b) (acc ++ [((a / b : Nat) : Int)]) (by omega) (by omega) (by omega) (by simp; omega)
      have e1 : wrap64 (Int.tdiv (a : Int) (b : Int)) = ((a / b : Nat) : Int) := by
        rw [show Int.tdiv (a : Int) (b : Int) = ((a / b : Nat) : Int) from rfl]
        have hd2 : ∀ q : Nat, q ≤ a → wrap64 (q : Int) = q := fun q hq => w64 (by omega) (by omega)
        exact hd2 _ hd
      have e2 : Int.tmod (a : Int) (b : Int) = ((a % b : Nat) : Int) := rfl
      apply Ev.succ
      simp only [impl_ContinuedOf.l0, if_neg (show ¬ (b : Int) = 0 by omega), if_pos (show acc.length < 17592186044416 by omega), e1, e2]
      refine this.to ?_
      rw [List.append_assoc, show cfL (n + 1 + 1) a b = if b = 0 then [] else ((a / b : Nat) : Int) :: cfL (n + 1) b (a % b) from rfl, if_neg hz]
      rfl
theorem cf_FC (a b : Nat) (ha : a ≤ 4096) (hb : 1 ≤ b ∧ b ≤ 4096) : (cfL (b + 1) a b).length ≤ 20 ∧ ∃ p q : Nat, FC (cfL (b + 1) a b) = ((p : Int), (q : Int), true) ∧ a * q = b * p ∧ 1 ≤ q ∧ Nat.gcd p q = 1 ∧ p ≤ 4096 ∧ q ≤ 4096 := by
  obtain ⟨p, q, e, hp, hq⟩ := cf_bk b a b (Nat.le_refl _)
  obtain ⟨g, hgd⟩ : ∃ g, g = Nat.gcd a b := ⟨_, rfl⟩
  have hg0 : 1 ≤ g := by rw [hgd]; exact Nat.gcd_pos_of_pos_right a (by omega)
  have hgg : Nat.gcd p q = 1 := by
    have h1 : Nat.gcd (p * Nat.gcd a b) (q * Nat.gcd a b) = Nat.gcd a b := by rw [hp, hq]
    rw [Nat.gcd_mul_right, ← hgd] at h1
    exact Nat.eq_of_mul_eq_mul_right hg0 (by rw [h1, Nat.one_mul])
  rw [← hgd] at hp hq
  have hpa : p ≤ a := by rw [← hp]; exact Nat.le_mul_of_pos_right p hg0
  have hqb : q ≤ b := by rw [← hq]; exact Nat.le_mul_of_pos_right q hg0
  have hq1 : 1 ≤ q := by
    rcases Nat.eq_zero_or_pos q with h | h
    · rw [h, Nat.zero_mul] at hq; omega
    · exact h
  have hm := Nat.mod_lt a (show b > 0 by omega)
  have hd := Nat.div_le_self a b
  have el : cfL (b + 1) a b = ((a / b : Nat) : Int) :: cfL b b (a % b) := by rw [cfL, if_neg (by omega)]
  have hlen : (cfL b b (a % b)).length ≤ 16 := by
    by_cases c : (cfL b b (a % b)).length ≤ 16
    · exact c
    · rcases cf_len 17 b b (a % b) hm (by omega) with ⟨k1, _⟩ | k
      · have : (4181 : Nat) ≤ b := k1
        omega
      · omega
  have htail := cf_tail b b (a % b) hm
  have hTM : TM (cfL (b + 1) a b) = true := by
    rw [el]
    unfold TM
    rw [Bool.and_eq_true]
    refine ⟨decide_eq_true ?_, List.all_eq_true.2 (fun x hx => decide_eq_true ?_)⟩
    · show 0 ≤ ((a / b : Nat) : Int) ∧ ((a / b : Nat) : Int) ≤ 1000000000
      exact ⟨Int.natCast_nonneg _, Int.le_trans (Int.ofNat_le.2 hd) (by omega)⟩
    · have := htail x hx
      omega
  refine ⟨by rw [el, List.length_cons]; omega, p, q, ?_, ?_, hq1, hgg, by omega, by omega⟩
  · unfold FC
    rw [if_pos, hTM, if_pos rfl, e]
    · unfold bkRes
      rw [if_neg (by omega)]
    · refine ⟨by rw [el, List.length_cons]; omega, by rw [el, List.length_cons]; omega, fun hh => ?_⟩
      rw [el] at hh
      obtain ⟨hh1, hh2⟩ := hh
      simp only [List.length_cons] at hh1 hh2
      have hpos : 1 ≤ a % b := by
        rcases Nat.eq_zero_or_pos (a % b) with h | h
        · rw [h] at hh1
          rw [show cfL b b 0 = [] by
            obtain ⟨c, rfl⟩ : ∃ c, b = c + 1 := ⟨b - 1, by omega⟩
            rw [cfL, if_pos rfl]] at hh1
          simp at hh1
        · exact h
      have hl := cf_last (b - 1) b (a % b) (by omega) hpos hm
      rw [show b - 1 + 1 = b by omega] at hl
      apply hl
      rw [List.getLast?_eq_getElem?]
      rw [show (cfL b b (a % b)).length + 1 - 1 = (cfL b b (a % b)).length - 1 + 1 by omega, List.getD_cons_succ] at hh2
      rw [List.getD_eq_getElem?_getD, List.getElem?_eq_getElem (by omega)] at hh2
      rw [List.getElem?_eq_getElem (by omega)]
      exact congrArg some hh2
  · rw [← hp, ← hq, Nat.mul_assoc, Nat.mul_assoc, Nat.mul_comm g q, Nat.mul_comm g p, ← Nat.mul_assoc, ← Nat.mul_assoc, Nat.mul_comm p q]
theorem repW_length (l : List Bool) : ∀ c, (repW l c).length = c * l.length
  | 0 => by simp [repW]
  | c + 1 => by rw [repW, List.length_append, repW_length l c, Nat.succ_mul]
theorem std_both (own : List Int) (hl : own.length ≤ 4) (h : ∀ x ∈ own, 1 ≤ x ∧ x ≤ 3) : ∃ R : ByteArray × Bool, Ev (fun k => impl_StandardWord.f k own) R ∧ Ev (fun k => spec_StandardWord.f k own) R ∧ (R.2 = true → R.1.size ≤ 120 ∧ R.1.data.toList = (stdP (own.map Int.toNat)).2.map ch) := by
  have hok : ∀ j, j < own.length → swOk own j = true := by
    intro j hj
    have := h _ (getD_mem (d := 0) hj)
    unfold swOk swLow
    refine decide_eq_true ?_
    split <;> omega
  obtain ⟨R, r1, r2, r3⟩ := sw_val own (by omega) hok own.length 0 (⟨#[98]⟩ : ByteArray) (⟨#[97]⟩ : ByteArray) [true] [false] (by omega) (by decide) (by decide) rfl rfl
  refine ⟨R, ?_, ?_, r3⟩
  · unfold impl_StandardWord.f
    refine Ev.bind ((tms_ev own (by omega)).to (show TMS own = true from List.all_eq_true.2 (fun j hj => hok j (List.mem_range.1 hj)))) ?_
    simp only [if_true]
    exact r2
  · unfold spec_StandardWord.f
    simp only [if_neg (show ¬ (own.length : Int) > 20 by omega)]
    exact r1
theorem own_loop (more : List Int) (hm' : ∀ x ∈ more, 0 ≤ x ∧ x ≤ 255) (m : Nat) (hm : m ≤ 4) (v0 : Int) (e0 : laws_b10At.f more 0 4 = some v0) (hv0 : 1 + v0 = (m : Int)) : ∀ (d i : Nat) (own : List Int), d + i = m → own.length = i → (∀ x ∈ own, 1 ≤ x ∧ x ≤ 3) → Ev (fun k => laws_FnContinued.l0 k more own ((stdP (own.map Int.toNat)).1.length : Int) ((stdP (own.map Int.toNat)).2.length : Int) i) true := by
  intro d
  induction d with
  | zero =>
    intro i own hd hlen hx
    have w1 : wrap64 (1 + v0) = (m : Int) := by rw [hv0]; exact w64 (by omega) (by omega)
    apply Ev.succ
    simp only [laws_FnContinued.l0, e0, Option.bind_some, w1, if_neg (show ¬ (i : Int) < (m : Int) by omega)]
    obtain ⟨R, r1, r2, r3⟩ := std_both own (by omega) hx
    refine Ev.bind r1 (Ev.bind r2 ?_)
    simp only [bne_self_eq_false, Bool.false_eq_true, if_false]
    cases hR : R.2 with
    | false =>
      simp only [Bool.false_eq_true, if_false]
      exact Ev.now _
    | true =>
      simp only [if_true]
      obtain ⟨s1, s2⟩ := r3 hR
      have hsa := std_at (own.map Int.toNat) (by rw [List.length_map]; omega) (fun y hy => by
        obtain ⟨z, hz, rfl⟩ := List.mem_map.1 hy
        have := hx z hz
        omega)
      obtain ⟨b1, b2⟩ := std_bal R.1 _ s2 hsa.1 s1
      simp only [if_pos (show (R.1.size : Int) = ((stdP (own.map Int.toNat)).2.length : Int) by rw [b2])]
      exact Ev.bind ((iWBAL_ev R.1).to b1) (Ev.now _)
  | succ d ih =>
    intro i own hd hlen hx
    have w1 : wrap64 (1 + v0) = (m : Int) := by rw [hv0]; exact w64 (by omega) (by omega)
    obtain ⟨v, ev, v1, v2⟩ := at_ok hm' (show (0 : Int) ≤ (i : Int) + 1 ∧ (i : Int) + 1 ≤ 100 by omega) (show (1 : Int) ≤ 3 ∧ (3 : Int) ≤ 1000 by omega)
    have w2 : wrap64 (1 + v) = 1 + v := w64 (by omega) (by omega)
    have hsa := std_at (own.map Int.toNat) (by rw [List.length_map]; omega) (fun y hy => by
        obtain ⟨z, hz, rfl⟩ := List.mem_map.1 hy
        have := hx z hz
        omega)
    have hb2 : (stdP (own.map Int.toNat)).2.length ≤ 1000 := by
      have := hsa.1
      simp only [chkW, Bool.and_eq_true] at this
      exact Nat.ble_eq.mp this.2.1
    have hb1 := hsa.2
    have hst : stdP ((own ++ [1 + v]).map Int.toNat) = stp (stdP (own.map Int.toNat)) (1 + v).toNat := by
      unfold stdP
      rw [List.map_append, List.foldl_append]
      rfl
    have h := ih (i + 1) (own ++ [1 + v]) (by omega) (by simp; omega) (fun x hx' => by
      rcases List.mem_append.1 hx' with h1 | h1
      · exact hx x h1
      · rw [List.mem_singleton.1 h1]; omega)
    rw [hst] at h
    have g1 : (stp (stdP (own.map Int.toNat)) (1 + v).toNat).1.length = (stdP (own.map Int.toNat)).2.length := rfl
    have g2 : (stp (stdP (own.map Int.toNat)) (1 + v).toNat).2.length = (1 + v).toNat * (stdP (own.map Int.toNat)).2.length + (stdP (own.map Int.toNat)).1.length := by
      show (repW (stdP (own.map Int.toNat)).2 (1 + v).toNat ++ (stdP (own.map Int.toNat)).1).length = _
      rw [List.length_append, repW_length]
    rw [g1, g2] at h
    apply Ev.succ
    simp only [laws_FnContinued.l0, e0, Option.bind_some, w1, if_pos (show (i : Int) < (m : Int) by omega), w64 (show (-9223372036854775808) ≤ (i : Int) + 1 by omega) (by omega), ev, w2, if_pos (show own.length < 17592186044416 by omega)]
    generalize (stdP (own.map Int.toNat)).2.length = y at h hb2 ⊢
    generalize (stdP (own.map Int.toNat)).1.length = z at h hb1 ⊢
    have e3 : wrap64 (wrap64 ((1 + v) * (y : Int)) + (z : Int)) = (((1 + v).toNat * y + z : Nat) : Int) := by
      rcases (show v = 0 ∨ v = 1 ∨ v = 2 by omega) with rfl | rfl | rfl
      · rw [w64 (show (-9223372036854775808) ≤ (1 + 0) * (y : Int) by omega) (by omega), w64 (by omega) (by omega), show (1 + 0 : Int).toNat = 1 from rfl]; omega
      · rw [w64 (show (-9223372036854775808) ≤ (1 + 1) * (y : Int) by omega) (by omega), w64 (by omega) (by omega), show (1 + 1 : Int).toNat = 2 from rfl]; omega
      · rw [w64 (show (-9223372036854775808) ≤ (1 + 2) * (y : Int) by omega) (by omega), w64 (by omega) (by omega), show (1 + 2 : Int).toNat = 3 from rfl]; omega
    rw [e3]
    exact h
theorem FnContinued : laws_FnContinued.Pure := by
  intro code more _ _ hc _ _ hm
  apply Ev.rounds
  unfold laws_FnContinued.f laws_b10Long.f
  have hc' : ∀ x ∈ code, 0 ≤ x ∧ x ≤ 255 := fun x hx => wfByte (hc x hx)
  have hm' : ∀ x ∈ more, 0 ≤ x ∧ x ≤ 255 := fun x hx => wfByte (hm x hx)
  by_cases c1 : (code.length : Int) > 1048576
  · simp only [if_pos c1, Option.bind_some, if_true]
    exact Ev.now _
  simp only [if_neg c1, Option.bind_some]
  by_cases c2 : (more.length : Int) > 1048576
  · simp only [decide_eq_true c2, if_true]
    exact Ev.now _
  simp only [decide_eq_false c2, Bool.false_eq_true, if_false]
  obtain ⟨v1, e1, a0, a1⟩ := at_ok hc' (show (0 : Int) ≤ 0 ∧ (0 : Int) ≤ 100 by omega) (show (1 : Int) ≤ 256 ∧ (256 : Int) ≤ 1000 by omega)
  obtain ⟨v2, e2, b0, b1⟩ := at_ok hc' (show (0 : Int) ≤ 1 ∧ (1 : Int) ≤ 100 by omega) (show (1 : Int) ≤ 16 ∧ (16 : Int) ≤ 1000 by omega)
  obtain ⟨v3, e3, d0, d1⟩ := at_ok hc' (show (0 : Int) ≤ 2 ∧ (2 : Int) ≤ 100 by omega) (show (1 : Int) ≤ 256 ∧ (256 : Int) ≤ 1000 by omega)
  obtain ⟨v4, e4, f0, f1⟩ := at_ok hc' (show (0 : Int) ≤ 3 ∧ (3 : Int) ≤ 100 by omega) (show (1 : Int) ≤ 16 ∧ (16 : Int) ≤ 1000 by omega)
  obtain ⟨v5, e5, g0, g1⟩ := at_ok hm' (show (0 : Int) ≤ 0 ∧ (0 : Int) ≤ 100 by omega) (show (1 : Int) ≤ 4 ∧ (4 : Int) ≤ 1000 by omega)
  obtain ⟨a, ha⟩ := Int.eq_ofNat_of_zero_le (show 0 ≤ 16 * v1 + v2 by omega)
  obtain ⟨b, hb⟩ := Int.eq_ofNat_of_zero_le (show 0 ≤ 1 + 16 * v3 + v4 by omega)
  obtain ⟨m, hmm⟩ := Int.eq_ofNat_of_zero_le (show 0 ≤ 1 + v5 by omega)
  have hA : wrap64 (wrap64 (16 * v1) + v2) = (a : Int) := by rw [w64 (show (-9223372036854775808) ≤ 16 * v1 by omega) (by omega), w64 (by omega) (by omega)]; exact ha
  have hB : wrap64 (wrap64 (1 + wrap64 (16 * v3)) + v4) = (b : Int) := by rw [w64 (show (-9223372036854775808) ≤ 16 * v3 by omega) (by omega), w64 (show (-9223372036854775808) ≤ 1 + 16 * v3 by omega) (by omega), w64 (by omega) (by omega)]; exact hb
  simp only [e1, Option.bind_some, e2, e3, e4, hA, hB]
  have ha2 : a ≤ 4096 := by omega
  have hb2 : 1 ≤ b ∧ b ≤ 4096 := by omega
  have hloop := own_loop more hm' m (by omega) v5 e5 hmm m 0 [] (by omega) rfl (fun x hx => by cases hx)
  clear hA hB ha hb e1 e2 e3 e4
  obtain ⟨hl, p, q, hFC, hx, hq1, hgg, hp4, hq4⟩ := cf_FC a b ha2 hb2
  have hcf : Ev (fun k => impl_ContinuedOf.f k (a : Int) (b : Int)) (cfL (b + 1) a b, true) := by
    unfold impl_ContinuedOf.f
    simp only [within_eq, Option.bind_some, decide_eq_true (show 0 ≤ (a : Int) ∧ (a : Int) ≤ 1000000000 by omega), decide_eq_true (show 1 ≤ (b : Int) ∧ (b : Int) ≤ 1000000000 by omega), if_true, Bool.not_true]
    apply Ev.succ
    simp only [impl_ContinuedOf.j0, Bool.false_eq_true, if_false]
    have := impl_cf b a b [] (Nat.le_refl _) (by omega) (by omega) (by simp; omega)
    rwa [List.nil_append] at this
  refine Ev.bind hcf (Ev.bind ((fc_impl (cfL (b + 1) a b) (by omega)).to hFC) ?_)
  have hxx : (a : Int) * (q : Int) = (b : Int) * (p : Int) := by
    have := congrArg (fun n : Nat => (n : Int)) hx
    simpa only [Int.natCast_mul] using this
  simp only [if_true, if_pos (show wrap64 ((a : Int) * (q : Int)) = wrap64 ((b : Int) * (p : Int)) from congrArg wrap64 hxx), if_neg (show ¬ (q : Int) < 1 by omega)]
  refine Ev.bind (b10Gcd_ev (p : Int) (q : Int) (by omega) (by omega)) ?_
  rw [show Int.gcd (p : Int) (q : Int) = 1 from hgg, show (((1 : Nat) : Int) != 1) = false from rfl]
  apply Ev.succ
  simp only [laws_FnContinued.j0, Bool.false_eq_true, if_false]
  exact hloop


end Go.Proofs.YtkcdmmegdhiabaaDoor.Pure
