/- Plain definitions and lemmas: the shifts with which a line makes a word. No condition. -/
import Derived.Test.YtkmghekffehimaaDoorSlopes
import Derived.Test.YtkmghekffehimaaDoorLine
namespace Go.Proofs.YtkmghekffehimaaDoor.Base
open Go.RowKit Go.Proofs.YtkmghekffehimaaDoorW.PrintWords Go.Proofs.YtkmghekffehimaaDoorW.PrintLast Go.Proofs.YtkmghekffehimaaDoorW.PrintMore
set_option linter.unusedVariables false
set_option linter.unusedSimpArgs false
def sl (s : ByteArray) (den a : Int) (i : Nat) : Int := hgt s i * den - (i : Int) * a
def su (s : ByteArray) (den a : Int) (i : Nat) : Int := (hgt s i + 1) * den - (i : Int) * a - 1
def lowF (s : ByteArray) (den a : Int) : Nat → Nat → Int → Int
  | 0, _, x => x
  | e + 1, i, x => lowF s den a e (i + 1) (max x (sl s den a i))
def hiF (s : ByteArray) (den a : Int) : Nat → Nat → Int → Int
  | 0, _, x => x
  | e + 1, i, x => hiF s den a e (i + 1) (min x (su s den a i))
theorem lowF_ge (s : ByteArray) (den a : Int) : ∀ (e i : Nat) (x : Int), x ≤ lowF s den a e i x ∧ ∀ j, i ≤ j → j < i + e → sl s den a j ≤ lowF s den a e i x
  | 0, i, x => ⟨Int.le_refl _, fun j h1 h2 => by omega⟩
  | e + 1, i, x => by
    obtain ⟨h1, h2⟩ := lowF_ge s den a e (i + 1) (max x (sl s den a i))
    refine ⟨by unfold lowF; omega, fun j hj hj2 => ?_⟩
    unfold lowF
    by_cases c : j = i
    · subst c; omega
    · exact h2 j (by omega) (by omega)
theorem lowF_le (s : ByteArray) (den a B : Int) : ∀ (e i : Nat) (x : Int), x ≤ B → (∀ j, i ≤ j → j < i + e → sl s den a j ≤ B) → lowF s den a e i x ≤ B
  | 0, _, _, h, _ => h
  | e + 1, i, x, h, hall => by
    have := hall i (by omega) (by omega)
    exact lowF_le s den a B e (i + 1) _ (by omega) (fun j h1 h2 => hall j (by omega) (by omega))
theorem hiF_le (s : ByteArray) (den a : Int) : ∀ (e i : Nat) (x : Int), hiF s den a e i x ≤ x ∧ ∀ j, i ≤ j → j < i + e → hiF s den a e i x ≤ su s den a j
  | 0, i, x => ⟨Int.le_refl _, fun j h1 h2 => by omega⟩
  | e + 1, i, x => by
    obtain ⟨h1, h2⟩ := hiF_le s den a e (i + 1) (min x (su s den a i))
    refine ⟨by unfold hiF; omega, fun j hj hj2 => ?_⟩
    unfold hiF
    by_cases c : j = i
    · subst c; omega
    · exact h2 j (by omega) (by omega)
theorem hiF_ge (s : ByteArray) (den a B : Int) : ∀ (e i : Nat) (x : Int), B ≤ x → (∀ j, i ≤ j → j < i + e → B ≤ su s den a j) → B ≤ hiF s den a e i x
  | 0, _, _, h, _ => h
  | e + 1, i, x, h, hall => by
    have := hall i (by omega) (by omega)
    exact hiF_ge s den a B e (i + 1) _ (by omega) (fun j h1 h2 => hall j (by omega) (by omega))
def LOW (s : ByteArray) (den a : Int) : Int := lowF s den a (s.size + 1) 0 0
def HIGH (s : ByteArray) (den a : Int) : Int := hiF s den a (s.size + 1) 0 (den - 1)
/-- A shift fits: the line's heights are the word's. -/
def FITS (s : ByteArray) (den a x : Int) : Prop := 0 ≤ x ∧ x ≤ den - 1 ∧ ∀ i, i ≤ s.size → sl s den a i ≤ x ∧ x ≤ su s den a i
theorem fits_low {s : ByteArray} {den a : Int} (h : LOW s den a ≤ HIGH s den a) : FITS s den a (LOW s den a) := by
  have l1 := lowF_ge s den a (s.size + 1) 0 0
  have h1 := hiF_le s den a (s.size + 1) 0 (den - 1)
  refine ⟨l1.1, Int.le_trans h h1.1, fun i hi => ⟨l1.2 i (by omega) (by omega), Int.le_trans h (h1.2 i (by omega) (by omega))⟩⟩
theorem low_fits {s : ByteArray} {den a : Int} (h : FITS s den a (LOW s den a)) : LOW s den a ≤ HIGH s den a :=
  hiF_ge s den a _ (s.size + 1) 0 (den - 1) h.2.1 (fun j _ hj => (h.2.2 j (by omega)).2)
theorem fits_floor {s : ByteArray} {den a x : Int} (hd : 0 < den) (h : FITS s den a x) (i : Nat) (hi : i ≤ s.size) : ((i : Int) * a + x) / den = hgt s i := by
  have := h.2.2 i hi
  unfold sl su at this
  have e : (hgt s i + 1) * den = hgt s i * den + den := by rw [Int.add_mul, Int.one_mul]
  exact ediv_uniq hd (by omega) (by omega)
theorem floor_fits {s : ByteArray} {den a x : Int} (hd : 0 < den) (h0 : 0 ≤ x) (h1 : x ≤ den - 1) (h : ∀ i : Nat, i ≤ s.size → ((i : Int) * a + x) / den = hgt s i) : FITS s den a x := by
  refine ⟨h0, h1, fun i hi => ?_⟩
  have := ediv_bounds (a := (i : Int) * a + x) hd
  rw [h i hi] at this
  have e : (hgt s i + 1) * den = hgt s i * den + den := by rw [Int.add_mul, Int.one_mul]
  unfold sl su
  omega
/-- The line's word is s just where its floors are the heights. -/
theorem line_word {s : ByteArray} {den a x : Int} (hw : ∀ i, i < s.size → bt s (i : Int) = 97 ∨ bt s (i : Int) = 98) (hd : 0 < den) (ha : 0 ≤ a ∧ a ≤ den) (h0 : 0 ≤ x) (h1 : x ≤ den - 1) :
    (∀ i, i < s.size → lineAt a den x i = bt s (i : Int)) ↔ ∀ i : Nat, i ≤ s.size → ((i : Int) * a + x) / den = hgt s i := by
  constructor
  · intro h i
    induction i with
    | zero =>
      intro _
      rw [show ((0 : Nat) : Int) * a + x = x by simp]
      exact Int.ediv_eq_zero_of_lt h0 (by omega)
    | succ i ih =>
      intro hi
      have ih := ih (by omega)
      have hl := h i (by omega)
      have e : ((i + 1 : Nat) : Int) * a + x = ((i : Int) + 1) * a + x := by rw [Int.natCast_succ]
      have e2 : ((i : Int) + 1) * a = (i : Int) * a + a := by rw [Int.add_mul, Int.one_mul]
      have b0 := ediv_bounds (a := (i : Int) * a + x) hd
      have up : ((i : Int) * a + x + den) / den = ((i : Int) * a + x) / den + 1 := Int.add_ediv_of_dvd_right (Int.dvd_refl den) |>.trans (by rw [Int.ediv_self (by omega)])
      have m1 := Int.ediv_le_ediv hd (show (i : Int) * a + x ≤ ((i : Int) + 1) * a + x by omega)
      have m2 := Int.ediv_le_ediv hd (show ((i : Int) + 1) * a + x ≤ (i : Int) * a + x + den by omega)
      rw [e]
      have hs : hgt s (i + 1) = hgt s i + (if bt s (i : Int) = 98 then 1 else 0) := rfl
      rw [hs]
      unfold lineAt at hl
      by_cases c : (((i : Int) + 1) * a + x) / den > ((i : Int) * a + x) / den
      · rw [if_pos c] at hl
        rw [if_pos hl.symm]
        omega
      · rw [if_neg c] at hl
        rw [if_neg (by omega)]
        omega
  · intro h i hi
    have e : ((i + 1 : Nat) : Int) * a + x = ((i : Int) + 1) * a + x := by rw [Int.natCast_succ]
    have f0 := h i (by omega)
    have f1 := h (i + 1) (by omega)
    rw [e] at f1
    have hs : hgt s (i + 1) = hgt s i + (if bt s (i : Int) = 98 then 1 else 0) := rfl
    rw [hs] at f1
    unfold lineAt
    rw [f0, f1]
    rcases hw i hi with c | c
    · simp only [if_neg (show ¬ bt s (i : Int) = 98 by omega)]
      rw [if_neg (by omega), c]
    · simp only [if_pos c]
      rw [if_pos (by omega), c]
theorem str_word {s : ByteArray} {den a x : Int} (hw : ∀ i, i < s.size → bt s (i : Int) = 97 ∨ bt s (i : Int) = 98) : (strOfNums (LINE a den x s.size)).toList = s.toList ↔ ∀ i, i < s.size → lineAt a den x i = bt s (i : Int) := by
  have hlen : s.data.toList.length = s.size := by simp
  have hl : ∀ i, lineAt a den x i = 97 ∨ lineAt a den x i = 98 := fun i => by unfold lineAt; split <;> simp
  have hx : (strOfNums (LINE a den x s.size)).data.toList = (LINE a den x s.size).map fun n => UInt8.ofNat n.toNat := by simp [strOfNums]
  rw [toListD, toListD, hx]
  constructor
  · intro h i hi
    have h1 : ((LINE a den x s.size).map fun n => UInt8.ofNat n.toNat)[i]'(by rw [List.length_map, LINE_length]; exact hi) = s.data.toList[i]'(by omega) := by simp only [h]
    rw [List.getElem_map] at h1
    have h2 : (LINE a den x s.size)[i]'(by rw [LINE_length]; exact hi) = lineAt a den x i := by simp [LINE]
    rw [h2] at h1
    rw [bt_nat s hi, ← h1, UInt8.toNat_ofNat']
    rcases hl i with e | e <;> rw [e] <;> rfl
  · intro h
    apply List.ext_getElem
    · rw [List.length_map, LINE_length, hlen]
    · intro i h1 h2
      have hi : i < s.size := by omega
      rw [List.getElem_map]
      have h3 : (LINE a den x s.size)[i]'(by rw [LINE_length]; exact hi) = lineAt a den x i := by simp [LINE]
      have h4 := h i hi
      rw [bt_nat s hi] at h4
      rw [h3, h4, Int.toNat_natCast]
      simp
theorem prod_lf {h den : Int} (h0 : 0 ≤ h ∧ h ≤ 121) (hd : 1 ≤ den ∧ den ≤ 1000) : 0 ≤ h * den ∧ h * den ≤ 121000 := by
  constructor
  · exact Int.mul_nonneg h0.1 (by omega)
  · have h1 := Int.mul_le_mul_of_nonneg_right h0.2 (show 0 ≤ den by omega)
    omega
theorem prod_ia {i a : Int} (h0 : 0 ≤ i ∧ i ≤ 121) (ha : 0 ≤ a ∧ a ≤ 1000) : 0 ≤ i * a ∧ i * a ≤ 121000 := by
  constructor
  · exact Int.mul_nonneg h0.1 ha.1
  · have h1 := Int.mul_le_mul_of_nonneg_right h0.2 ha.1
    omega
/-- A line that makes the word has a slope between the ends. -/
theorem fits_between {s : ByteArray} {den a x : Int} (hs : s.size ≤ 120) (hd : 1 ≤ den) (ha : 0 ≤ a ∧ a ≤ den) (h : FITS s den a x) {lo ld hi hd' : Int} (m : ENDS s (-2) (-3) (fun _ _ => True) lo ld hi hd') : a * ld > lo * den ∧ a * hd' < hi * den := by
  have key : ∀ i j, i < j → j ≤ s.size → (hgt s j - hgt s i - 1) * den < a * ((j : Int) - i) ∧ a * ((j : Int) - i) < (hgt s j - hgt s i + 1) * den := by
    intro i j hij hj
    have h1 := h.2.2 i (by omega)
    have h2 := h.2.2 j hj
    unfold sl su at h1 h2
    have e1 : (hgt s j - hgt s i - 1) * den = hgt s j * den - hgt s i * den - den := by rw [Int.sub_mul, Int.sub_mul, Int.one_mul]
    have e2 : (hgt s j - hgt s i + 1) * den = hgt s j * den - hgt s i * den + den := by rw [Int.add_mul, Int.sub_mul, Int.one_mul]
    have e3 : a * ((j : Int) - i) = (j : Int) * a - (i : Int) * a := by rw [Int.mul_sub, Int.mul_comm a, Int.mul_comm a]
    have e4 : (hgt s i + 1) * den = hgt s i * den + den := by rw [Int.add_mul, Int.one_mul]
    have e5 : (hgt s j + 1) * den = hgt s j * den + den := by rw [Int.add_mul, Int.one_mul]
    omega
  constructor
  · rcases m.l.ex with ⟨e1, e2⟩ | ⟨i, j, hij, hj, e1, e2⟩
    · rw [e1, e2]; omega
    · rw [e1, e2]; unfold vLo; exact (key i j hij hj).1
  · rcases m.h.ex with ⟨e1, e2⟩ | ⟨i, j, hij, hj, e1, e2⟩
    · rw [show hi = 3 by omega, e2]; omega
    · have e3 : hi = hgt s j - hgt s i + 1 := by unfold vHi at e1; omega
      rw [e3, e2]; exact (key i j hij hj).2
/-- A word that a line makes is balanced. -/
theorem fits_rise {s : ByteArray} {den a x : Int} (hd : 1 ≤ den) (h : FITS s den a x) (n i j : Nat) (hi : i + n ≤ s.size) (hj : j + n ≤ s.size) : rise s n i ≤ rise s n j + 1 := by
  have h1 := h.2.2 i (by omega)
  have h2 := h.2.2 (i + n) hi
  have h3 := h.2.2 j (by omega)
  have h4 := h.2.2 (j + n) hj
  unfold sl su at h1 h2 h3 h4
  have e1 : ((i + n : Nat) : Int) * a = (i : Int) * a + (n : Int) * a := by rw [Int.natCast_add, Int.add_mul]
  have e2 : ((j + n : Nat) : Int) * a = (j : Int) * a + (n : Int) * a := by rw [Int.natCast_add, Int.add_mul]
  rw [e1] at h2
  rw [e2] at h4
  have d1 : (hgt s i + 1) * den = hgt s i * den + den := by rw [Int.add_mul, Int.one_mul]
  have d2 : (hgt s (i + n) + 1) * den = hgt s (i + n) * den + den := by rw [Int.add_mul, Int.one_mul]
  have d3 : (hgt s j + 1) * den = hgt s j * den + den := by rw [Int.add_mul, Int.one_mul]
  have d4 : (hgt s (j + n) + 1) * den = hgt s (j + n) * den + den := by rw [Int.add_mul, Int.one_mul]
  have r1 : rise s n i * den = hgt s (i + n) * den - hgt s i * den := by unfold rise; rw [Int.sub_mul]
  have r2 : (rise s n j + 2) * den = hgt s (j + n) * den - hgt s j * den + 2 * den := by unfold rise; rw [Int.add_mul, Int.sub_mul]
  have : rise s n i * den < (rise s n j + 2) * den := by omega
  have := Int.lt_of_mul_lt_mul_right this (by omega)
  omega
theorem mn_ge (s : ByteArray) (n : Nat) (B : Int) : ∀ (e j : Nat) (a : Int), B ≤ a → (∀ k, j ≤ k → k < j + e → B ≤ rise s n k) → B ≤ mnG s n e j a
  | 0, _, _, h, _ => h
  | e + 1, j, a, h, hall => by
    have := hall j (by omega) (by omega)
    exact mn_ge s n B e (j + 1) _ (by omega) (fun k h1 h2 => hall k (by omega) (by omega))
theorem mx_ex (s : ByteArray) (n : Nat) : ∀ (e j : Nat) (a : Int), mxG s n e j a = a ∨ ∃ k, j ≤ k ∧ k < j + e ∧ mxG s n e j a = rise s n k
  | 0, _, _ => .inl rfl
  | e + 1, j, a => by
    have h := mx_ex s n e (j + 1) (max a (rise s n j))
    unfold mxG
    rcases h with h | ⟨k, h1, h2, h3⟩
    · rw [h]
      by_cases c : rise s n j ≤ a
      · left; omega
      · right; exact ⟨j, by omega, by omega, by omega⟩
    · right; exact ⟨k, by omega, by omega, h3⟩
theorem fits_bal {s : ByteArray} {den a x : Int} (hd : 1 ≤ den) (h : FITS s den a x) : BAL s = true := by
  unfold BAL
  rw [List.all_eq_true]
  intro n hn
  have hn' : n ≤ s.size := by
    have := List.mem_range.1 (List.mem_of_mem_drop hn)
    omega
  have r0 : hgt s n = rise s n 0 := by unfold rise; rw [Nat.zero_add]; show _ = _ - (0 : Int); omega
  unfold okN
  rw [decide_eq_true_iff]
  have hmx : ∃ k, k + n ≤ s.size ∧ mxG s n (s.size + 1 - n) 0 (hgt s n) = rise s n k := by
    rcases mx_ex s n (s.size + 1 - n) 0 (hgt s n) with e | ⟨k, _, h2, e⟩
    · exact ⟨0, by omega, by rw [e, r0]⟩
    · exact ⟨k, by omega, e⟩
  obtain ⟨k, hk, e⟩ := hmx
  have := mn_ge s n (rise s n k - 1) (s.size + 1 - n) 0 (hgt s n) (by have := fits_rise hd h n k 0 hk (by omega); omega) (fun j _ hj => by have := fits_rise hd h n k j hk (by omega); omega)
  rw [e]
  omega
end Go.Proofs.YtkmghekffehimaaDoor.Base
