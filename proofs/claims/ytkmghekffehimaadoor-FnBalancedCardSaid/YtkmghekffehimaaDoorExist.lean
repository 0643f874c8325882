/- Plain lemmas: for each balanced word there is a line. No condition. -/
import Derived.Test.YtkmghekffehimaaDoorLineFor
namespace Go.Proofs.YtkmghekffehimaaDoor.Base
open Go.RowKit Go.Proofs.YtkmghekffehimaaDoorW.PrintWords Go.Proofs.YtkmghekffehimaaDoorW.PrintLast Go.Proofs.YtkmghekffehimaaDoorW.PrintMore
set_option linter.unusedVariables false
set_option linter.unusedSimpArgs false
theorem mx_ge (s : ByteArray) (n : Nat) : ∀ (e j : Nat) (a : Int), a ≤ mxG s n e j a ∧ ∀ k, j ≤ k → k < j + e → rise s n k ≤ mxG s n e j a
  | 0, j, a => ⟨Int.le_refl _, fun k h1 h2 => by omega⟩
  | e + 1, j, a => by
    obtain ⟨h1, h2⟩ := mx_ge s n e (j + 1) (max a (rise s n j))
    unfold mxG
    refine ⟨by omega, fun k hk hk2 => ?_⟩
    by_cases c : k = j
    · subst c; omega
    · exact h2 k (by omega) (by omega)
theorem mn_le (s : ByteArray) (n : Nat) : ∀ (e j : Nat) (a : Int), mnG s n e j a ≤ a ∧ ∀ k, j ≤ k → k < j + e → mnG s n e j a ≤ rise s n k
  | 0, j, a => ⟨Int.le_refl _, fun k h1 h2 => by omega⟩
  | e + 1, j, a => by
    obtain ⟨h1, h2⟩ := mn_le s n e (j + 1) (min a (rise s n j))
    unfold mnG
    refine ⟨by omega, fun k hk hk2 => ?_⟩
    by_cases c : k = j
    · subst c; omega
    · exact h2 k (by omega) (by omega)
/-- All parts of one length rise alike, but for 1. -/
def EVEN (s : ByteArray) : Prop := ∀ n i j, i + n ≤ s.size → j + n ≤ s.size → rise s n i ≤ rise s n j + 1
theorem bal_even {s : ByteArray} (h : BAL s = true) : EVEN s := by
  intro n i j hi hj
  by_cases c : n = 0
  · subst c; rw [rise_zero, rise_zero]; omega
  · unfold BAL at h
    rw [List.all_eq_true] at h
    have hm : n ∈ (List.range (s.size + 1)).drop 1 := by
      rw [List.mem_iff_getElem]
      refine ⟨n - 1, by simp; omega, by simp; omega⟩
    have := h n hm
    unfold okN at this
    rw [decide_eq_true_iff] at this
    have h1 := (mx_ge s n (s.size + 1 - n) 0 (hgt s n)).2 i (by omega) (by omega)
    have h2 := (mn_le s n (s.size + 1 - n) 0 (hgt s n)).2 j (by omega) (by omega)
    omega
theorem even_bal {s : ByteArray} (h : EVEN s) : BAL s = true := by
  unfold BAL
  rw [List.all_eq_true]
  intro n hn
  have hn' : n ≤ s.size := by
    have := List.mem_range.1 (List.mem_of_mem_drop hn)
    omega
  have r0 : hgt s n = rise s n 0 := by unfold rise; rw [Nat.zero_add]; show _ = _ - (0 : Int); omega
  unfold okN
  rw [decide_eq_true_iff]
  have hmx : ∃ k, k + n ≤ s.size ∧ mxG s n (s.size + 1 - n) 0 (hgt s n) = rise s n k := by
    rcases mx_ex s n (s.size + 1 - n) 0 (hgt s n) with e | ⟨k, _, h2, e⟩
    · exact ⟨0, by omega, by rw [e, r0]⟩
    · exact ⟨k, by omega, e⟩
  obtain ⟨k, hk, e⟩ := hmx
  have := mn_ge s n (rise s n k - 1) (s.size + 1 - n) 0 (hgt s n) (by have := h n k 0 hk (by omega); omega) (fun j _ hj => by have := h n k j hk (by omega); omega)
  rw [e]
  omega
theorem rise_split (s : ByteArray) (n m i : Nat) : rise s (n + m) i = rise s n i + rise s m (i + n) := by
  unfold rise
  rw [show i + (n + m) = i + n + m by omega]
  omega
/-- Slopes of parts, as Euclid would have them. -/
theorem even_cross {s : ByteArray} (h : EVEN s) : ∀ (t n m i j : Nat), n + m = t → 1 ≤ n → 1 ≤ m → i + n ≤ s.size → j + m ≤ s.size → (rise s n i - 1) * m < (rise s m j + 1) * n := by
  intro t
  induction t using Nat.strongRecOn with
  | _ t ih =>
    intro n m i j ht hn hm hi hj
    apply Int.not_le.1
    intro c
    rcases Nat.lt_trichotomy n m with hlt | heq | hgt'
    · obtain ⟨d, rfl⟩ : ∃ d, m = n + d := ⟨m - n, by omega⟩
      have g := ih (n + d) (by omega) n d i (j + n) rfl hn (by omega) hi (by omega)
      have r := rise_split s n d j
      have e := h n i j hi (by omega)
      have c1 : (rise s n i - 1) * ((n + d : Nat) : Int) = (rise s n i - 1) * n + (rise s n i - 1) * d := by rw [Int.natCast_add, Int.mul_add]
      have c2 : (rise s d (j + n) + 1) * (n : Int) ≤ ((rise s (n + d) j + 1) - (rise s n i - 1)) * n := Int.mul_le_mul_of_nonneg_right (by omega) (by omega)
      rw [Int.sub_mul] at c2
      omega
    · subst heq
      have e := h n i j hi hj
      have := Int.le_of_mul_le_mul_right c (by omega)
      omega
    · obtain ⟨d, rfl⟩ : ∃ d, n = m + d := ⟨n - m, by omega⟩
      have g := ih (d + m) (by omega) d m (i + m) j rfl (by omega) hm (by omega) hj
      have r := rise_split s m d i
      have e := h m i j (by omega) hj
      have c1 : (rise s m j + 1) * ((m + d : Nat) : Int) = (rise s m j + 1) * m + (rise s m j + 1) * d := by rw [Int.natCast_add, Int.mul_add]
      have c2 : ((rise s (m + d) i - 1) - (rise s m j + 1)) * (m : Int) ≤ (rise s d (i + m) - 1) * m := Int.mul_le_mul_of_nonneg_right (by omega) (by omega)
      rw [Int.sub_mul] at c2
      omega
theorem frac_lt {a n p d q m : Int} (h1 : a * d ≤ p * n) (h2 : p * m < q * d) (hd : 0 < d) (hn : 0 < n) (hm : 0 ≤ m) : a * m < q * n := by
  have e1 : (a * m) * d < (q * n) * d := by
    have s1 : (a * d) * m ≤ (p * n) * m := Int.mul_le_mul_of_nonneg_right h1 hm
    have s2 : (p * m) * n < (q * d) * n := Int.mul_lt_mul_of_pos_right h2 hn
    have t1 : (a * m) * d = (a * d) * m := by rw [Int.mul_assoc, Int.mul_comm m d, ← Int.mul_assoc]
    have t2 : (p * n) * m = (p * m) * n := by rw [Int.mul_assoc, Int.mul_comm n m, ← Int.mul_assoc]
    have t3 : (q * d) * n = (q * n) * d := by rw [Int.mul_assoc, Int.mul_comm d n, ← Int.mul_assoc]
    omega
  exact Int.lt_of_mul_lt_mul_right e1 (by omega)
/-- The ends of a balanced word's slopes lie apart. -/
theorem even_ends {s : ByteArray} (h : EVEN s) (h1 : 1 ≤ s.size) (hs : s.size ≤ 120) {lo ld hi hd : Int} (m : ENDS s (-2) (-3) (fun _ _ => True) lo ld hi hd) :
    lo * hd < hi * ld ∧ -1 ≤ lo ∧ lo ≤ ld - 1 ∧ 1 ≤ hi ∧ hi ≤ hd + 1 := by
  have hl : ∃ i j, i < j ∧ j ≤ s.size ∧ lo = vLo s i j ∧ ld = (j : Int) - i := by
    rcases m.l.ex with ⟨e1, e2⟩ | e
    · have a := m.l.all 0 1 (by omega) h1 trivial
      have b := hgt_diff s (show 0 < 1 by omega) h1 hs
      unfold vLo at a
      rw [e1, e2] at a
      simp at a
      omega
    · exact e
  have hh : ∃ i j, i < j ∧ j ≤ s.size ∧ -hi = vHi s i j ∧ hd = (j : Int) - i := by
    rcases m.h.ex with ⟨e1, e2⟩ | e
    · have a := m.h.all 0 1 (by omega) h1 trivial
      have b := hgt_diff s (show 0 < 1 by omega) h1 hs
      unfold vHi at a
      rw [e1, e2] at a
      simp at a
      omega
    · exact e
  obtain ⟨i, j, hij, hj, rfl, rfl⟩ := hl
  obtain ⟨i', j', hij', hj', ehi, rfl⟩ := hh
  have b1 := hgt_diff s hij hj hs
  have b2 := hgt_diff s hij' hj' hs
  obtain ⟨n, rfl⟩ : ∃ n, j = i + n := ⟨j - i, by omega⟩
  obtain ⟨n', rfl⟩ : ∃ n, j' = i' + n := ⟨j' - i', by omega⟩
  have c := even_cross h (n + n') n n' i i' rfl (by omega) (by omega) hj hj'
  unfold vHi at ehi
  have ehi' : hi = hgt s (i' + n') - hgt s i' + 1 := by omega
  subst ehi'
  unfold vLo
  unfold rise at c
  refine ⟨?_, by omega, by omega, by omega, by omega⟩
  rw [show ((i' + n' : Nat) : Int) - i' = n' by omega, show ((i + n : Nat) : Int) - i = n by omega]
  exact c
/-- A slope between the ends makes the word. -/
theorem between_fits {s : ByteArray} (hs : s.size ≤ 120) {den a : Int} (hd : 1 ≤ den) {lo ld hi hd' : Int} (m : ENDS s (-2) (-3) (fun _ _ => True) lo ld hi hd') (c1 : lo * den < a * ld) (c2 : a * hd' < hi * den) : LOW s den a ≤ HIGH s den a := by
  have b := ends_bnd m
  have up : ∀ i j, i < j → j ≤ s.size → (hgt s j - hgt s i - 1) * den < a * ((j : Int) - i) := by
    intro i j hij hj
    have := frac_lt (m.l.all i j hij hj trivial) c1 (by omega) (show 0 < (j : Int) - i by omega) (by omega)
    unfold vLo at this
    exact this
  have dn : ∀ i j, i < j → j ≤ s.size → a * ((j : Int) - i) < (hgt s j - hgt s i + 1) * den := by
    intro i j hij hj
    have c3 : -hi * den < -a * hd' := by rw [Int.neg_mul, Int.neg_mul]; omega
    have := frac_lt (m.h.all i j hij hj trivial) c3 (by omega) (show 0 < (j : Int) - i by omega) (by omega)
    unfold vHi at this
    rw [Int.neg_mul, Int.neg_mul] at this
    omega
  have key : ∀ i j, i ≤ s.size → j ≤ s.size → sl s den a i ≤ su s den a j := by
    intro i j hi' hj
    have e4 : (hgt s j + 1) * den = hgt s j * den + den := by rw [Int.add_mul, Int.one_mul]
    unfold sl su
    rcases Nat.lt_trichotomy i j with hlt | heq | hgt'
    · have := dn i j hlt hj
      have e2 : (hgt s j - hgt s i + 1) * den = hgt s j * den - hgt s i * den + den := by rw [Int.add_mul, Int.sub_mul, Int.one_mul]
      have e3 : a * ((j : Int) - i) = (j : Int) * a - (i : Int) * a := by rw [Int.mul_sub, Int.mul_comm a, Int.mul_comm a]
      omega
    · subst heq; omega
    · have := up j i hgt' hi'
      have e2 : (hgt s i - hgt s j - 1) * den = hgt s i * den - hgt s j * den - den := by rw [Int.sub_mul, Int.sub_mul, Int.one_mul]
      have e3 : a * ((i : Int) - j) = (i : Int) * a - (j : Int) * a := by rw [Int.mul_sub, Int.mul_comm a, Int.mul_comm a]
      omega
  have s0 : sl s den a 0 = 0 := by unfold sl; show (0 : Int) * den - ((0 : Nat) : Int) * a = 0; simp
  have u0 : su s den a 0 = den - 1 := by unfold su; show ((0 : Int) + 1) * den - ((0 : Nat) : Int) * a - 1 = _; simp
  have low : ∀ B, (∀ i, i ≤ s.size → sl s den a i ≤ B) → LOW s den a ≤ B := fun B h => by
    refine lowF_le s den a B (s.size + 1) 0 0 ?_ (fun j _ hj => h j (by omega))
    have := h 0 (by omega)
    omega
  refine hiF_ge s den a _ (s.size + 1) 0 (den - 1) (low _ (fun i hi' => ?_)) (fun j _ hj => low _ (fun i hi' => key i j hi' (by omega)))
  rw [← u0]
  exact key i 0 hi' (by omega)
/-- For each balanced word there is a line. -/
theorem even_line {s : ByteArray} (h : EVEN s) (h1 : 1 ≤ s.size) (hs : s.size ≤ 120) {lo ld hi hd : Int} (m : ENDS s (-2) (-3) (fun _ _ => True) lo ld hi hd) :
    ∃ den a : Int, 1 ≤ den ∧ den ≤ 1000 ∧ 0 ≤ a ∧ a ≤ den ∧ LOW s den a ≤ HIGH s den a := by
  have b := ends_bnd m
  obtain ⟨e1, e2, e3, e4, e5⟩ := even_ends h h1 hs m
  refine ⟨ld + hd, lo + hi, by omega, by omega, by omega, by omega, between_fits hs (by omega) m ?_ ?_⟩
  · have t1 : lo * (ld + hd) = lo * ld + lo * hd := Int.mul_add _ _ _
    have t2 : (lo + hi) * ld = lo * ld + hi * ld := Int.add_mul _ _ _
    omega
  · have t1 : (lo + hi) * hd = lo * hd + hi * hd := Int.add_mul _ _ _
    have t2 : hi * (ld + hd) = hi * ld + hi * hd := Int.mul_add _ _ _
    omega
end Go.Proofs.YtkmghekffehimaaDoor.Base
