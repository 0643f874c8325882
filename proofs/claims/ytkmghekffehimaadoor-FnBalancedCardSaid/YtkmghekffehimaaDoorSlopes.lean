/- Plain definitions and lemmas: the greatest of fractions, in lowest terms. No condition. -/
import Derived.Test.YtkmghekffehimaaDoorBalance
import Derived.Test.YtkmghekffehimaaDoorGcd
namespace Go.Proofs.YtkmghekffehimaaDoor.Base
open Go.RowKit Go.Proofs.YtkmghekffehimaaDoorW.PrintWords Go.Proofs.YtkmghekffehimaaDoorW.PrintLast Go.Proofs.YtkmghekffehimaaDoorW.PrintMore
set_option linter.unusedVariables false
set_option linter.unusedSimpArgs false
theorem frac_trans {a n p d q m : Int} (h1 : a * d ≤ p * n) (h2 : p * m ≤ q * d) (hd : 0 < d) (hn : 0 ≤ n) (hm : 0 ≤ m) : a * m ≤ q * n := by
  have e1 : (a * m) * d ≤ (q * n) * d := by
    have s1 : (a * d) * m ≤ (p * n) * m := Int.mul_le_mul_of_nonneg_right h1 hm
    have s2 : (p * m) * n ≤ (q * d) * n := Int.mul_le_mul_of_nonneg_right h2 hn
    have t1 : (a * m) * d = (a * d) * m := by rw [Int.mul_assoc, Int.mul_comm m d, ← Int.mul_assoc]
    have t2 : (p * n) * m = (p * m) * n := by rw [Int.mul_assoc, Int.mul_comm n m, ← Int.mul_assoc]
    have t3 : (q * d) * n = (q * n) * d := by rw [Int.mul_assoc, Int.mul_comm d n, ← Int.mul_assoc]
    omega
  exact Int.le_of_mul_le_mul_right e1 hd
/-- x / d is the greatest of the fractions v i j / (j - i) of the pairs P, and of init. -/
structure MXP (s : ByteArray) (v : Nat → Nat → Int) (init : Int) (P : Nat → Nat → Prop) (x d : Int) : Prop where
  d1 : 1 ≤ d
  d2 : d ≤ 120
  xb : -200 ≤ x ∧ x ≤ 200
  ini : init * d ≤ x
  all : ∀ i j, i < j → j ≤ s.size → P i j → v i j * d ≤ x * ((j : Int) - i)
  ex : (x = init ∧ d = 1) ∨ ∃ i j, i < j ∧ j ≤ s.size ∧ x = v i j ∧ d = (j : Int) - i
theorem MXP.mono {s : ByteArray} {v : Nat → Nat → Int} {init x d : Int} {P Q : Nat → Nat → Prop} (h : MXP s v init P x d) (hPQ : ∀ i j, i < j → j ≤ s.size → Q i j → P i j) : MXP s v init Q x d :=
  ⟨h.d1, h.d2, h.xb, h.ini, fun i j hi hj hq => h.all i j hi hj (hPQ i j hi hj hq), h.ex⟩
theorem MXP.start {s : ByteArray} {v : Nat → Nat → Int} {init : Int} (hi : -200 ≤ init ∧ init ≤ 200) : MXP s v init (fun _ _ => False) init 1 :=
  ⟨by omega, by omega, hi, by omega, fun _ _ _ _ h => h.elim, .inl ⟨rfl, rfl⟩⟩
theorem MXP.yes {s : ByteArray} {v : Nat → Nat → Int} {init x d : Int} {P : Nat → Nat → Prop} (h : MXP s v init P x d) (hs : s.size ≤ 120) {i j : Nat} (hij : i < j) (hj : j ≤ s.size) (hv : -200 ≤ v i j ∧ v i j ≤ 200) (c : v i j * d > x * ((j : Int) - i)) : MXP s v init (fun a b => P a b ∨ (a = i ∧ b = j)) (v i j) ((j : Int) - i) := by
  refine ⟨by omega, by omega, hv, ?_, ?_, .inr ⟨i, j, hij, hj, rfl, rfl⟩⟩
  · have := frac_trans (a := init) (n := 1) (p := x) (d := d) (q := v i j) (m := (j : Int) - i) (by have := h.ini; omega) (by omega) (by have := h.d1; omega) (by omega) (by omega)
    omega
  · intro a b hab hb hP
    rcases hP with hP | ⟨rfl, rfl⟩
    · exact frac_trans (h.all a b hab hb hP) (by omega) (by have := h.d1; omega) (by omega) (by omega)
    · exact Int.le_refl _
theorem MXP.no {s : ByteArray} {v : Nat → Nat → Int} {init x d : Int} {P : Nat → Nat → Prop} (h : MXP s v init P x d) {i j : Nat} (c : ¬ v i j * d > x * ((j : Int) - i)) : MXP s v init (fun a b => P a b ∨ (a = i ∧ b = j)) x d := by
  refine ⟨h.d1, h.d2, h.xb, h.ini, ?_, h.ex⟩
  intro a b hab hb hP
  rcases hP with hP | ⟨rfl, rfl⟩
  · exact h.all a b hab hb hP
  · omega
theorem MXP.le {s : ByteArray} {v : Nat → Nat → Int} {i1 i2 x d y e : Int} (h : MXP s v i1 (fun _ _ => True) x d) (k : MXP s v i2 (fun _ _ => True) y e) (hs : 1 ≤ s.size) (h0 : i1 ≤ v 0 1) : x * e ≤ y * d := by
  rcases h.ex with ⟨rfl, rfl⟩ | ⟨i, j, hij, hj, rfl, rfl⟩
  · have a1 := h.all 0 1 (by omega) hs trivial
    have a2 := k.all 0 1 (by omega) hs trivial
    have : x = v 0 1 := by simp at a1; omega
    rw [this]
    simpa using a2
  · exact k.all i j hij hj trivial
theorem MXP.same {s : ByteArray} {v : Nat → Nat → Int} {i1 i2 x d y e : Int} (h : MXP s v i1 (fun _ _ => True) x d) (k : MXP s v i2 (fun _ _ => True) y e) (hs : 1 ≤ s.size) (h1 : i1 ≤ v 0 1) (h2 : i2 ≤ v 0 1) : x * e = y * d :=
  Int.le_antisymm (h.le k hs h1) (k.le h hs h2)
/-- One fraction, two ways to write it: the same in lowest terms. -/
theorem lowest_same {x d y e : Int} (hd : 0 < d) (he : 0 < e) (h : x * e = y * d) : x.tdiv (Int.gcd x d : Int) = y.tdiv (Int.gcd y e : Int) ∧ d.tdiv (Int.gcd x d : Int) = e.tdiv (Int.gcd y e : Int) := by
  have g0 : 0 < Int.gcd x d := Int.gcd_pos_of_ne_zero_right x (by omega)
  have g1 : 0 < Int.gcd y e := Int.gcd_pos_of_ne_zero_right y (by omega)
  obtain ⟨x', hx⟩ := Int.gcd_dvd_left x d
  obtain ⟨d', hd'⟩ := Int.gcd_dvd_right x d
  obtain ⟨y', hy⟩ := Int.gcd_dvd_left y e
  obtain ⟨e', he'⟩ := Int.gcd_dvd_right y e
  have hk : Int.gcd x d * e.natAbs = Int.gcd y e * d.natAbs := by
    have a1 : Int.gcd (x * e) (d * e) = Int.gcd x d * e.natAbs := Int.gcd_mul_right x e d
    have a2 : Int.gcd (y * d) (e * d) = Int.gcd y e * d.natAbs := Int.gcd_mul_right y d e
    rw [← a1, ← a2, h, Int.mul_comm d e]
  have hk' : (Int.gcd x d : Int) * e = (Int.gcd y e : Int) * d := by
    have e1 : ((e.natAbs : Nat) : Int) = e := Int.natAbs_of_nonneg (by omega)
    have e2 : ((d.natAbs : Nat) : Int) = d := Int.natAbs_of_nonneg (by omega)
    have := congrArg (fun n : Nat => (n : Int)) hk
    simp only [Int.natCast_mul, e1, e2] at this
    exact this
  generalize hg : (Int.gcd x d : Int) = g at *
  generalize hg' : (Int.gcd y e : Int) = g' at *
  have p0 : 0 < g := by omega
  have p1 : 0 < g' := by omega
  have n0 : g ≠ 0 := by omega
  have n1 : g' ≠ 0 := by omega
  have q1 : d' = e' := by
    have : (g * g') * e' = (g * g') * d' := by
      rw [Int.mul_assoc, ← he', hk', hd', ← Int.mul_assoc, Int.mul_comm g' g]
    exact (Int.eq_of_mul_eq_mul_left (Int.mul_ne_zero n0 n1) this).symm
  have q0 : e' ≠ 0 := by intro c; rw [c, Int.mul_zero] at he'; omega
  have q2 : x' = y' := by
    have e1 : (g * g' * e') * x' = (g * g' * e') * y' := by
      have t1 : x * e = (g * g' * e') * x' := by
        rw [hx, he', Int.mul_assoc, Int.mul_comm x', Int.mul_assoc, ← Int.mul_assoc, Int.mul_assoc]
        simp [Int.mul_assoc, Int.mul_comm, Int.mul_left_comm]
      have t2 : y * d = (g * g' * e') * y' := by
        rw [hy, hd', q1]
        simp [Int.mul_assoc, Int.mul_comm, Int.mul_left_comm]
      rw [← t1, ← t2, h]
    exact Int.eq_of_mul_eq_mul_left (Int.mul_ne_zero (Int.mul_ne_zero n0 n1) q0) e1
  rw [hx, hd', hy, he', Int.mul_tdiv_cancel_left _ n0, Int.mul_tdiv_cancel_left _ n0, Int.mul_tdiv_cancel_left _ n1, Int.mul_tdiv_cancel_left _ n1]
  exact ⟨q2, q1⟩
theorem prod_bnd {a b : Int} (ha : -200 ≤ a ∧ a ≤ 200) (hb : 0 ≤ b ∧ b ≤ 200) : -40000 ≤ a * b ∧ a * b ≤ 40000 := by
  have h1 := Int.mul_le_mul_of_nonneg_right ha.1 hb.1
  have h2 := Int.mul_le_mul_of_nonneg_right ha.2 hb.1
  omega
def vLo (s : ByteArray) (i j : Nat) : Int := hgt s j - hgt s i - 1
def vHi (s : ByteArray) (i j : Nat) : Int := -(hgt s j - hgt s i + 1)
theorem hgt_diff (s : ByteArray) {i j : Nat} (h : i < j) (hj : j ≤ s.size) (hs : s.size ≤ 120) : 0 ≤ hgt s j - hgt s i ∧ hgt s j - hgt s i ≤ (j : Int) - i := by
  have := rise_range s (j - i) i
  unfold rise at this
  rw [show i + (j - i) = j by omega] at this
  omega
/-- The greatest of the low ends, the least of the high ones. -/
structure ENDS (s : ByteArray) (a b : Int) (P : Nat → Nat → Prop) (lo ld hi hd : Int) : Prop where
  l : MXP s (vLo s) a P lo ld
  h : MXP s (vHi s) b P (-hi) hd
theorem ends_step {s : ByteArray} {a b : Int} {P : Nat → Nat → Prop} {lo ld hi hd : Int} (h : ENDS s a b P lo ld hi hd) (hs : s.size ≤ 120) {i j : Nat} (hij : i < j) (hj : j ≤ s.size) :
    ENDS s a b (fun x y => P x y ∨ (x = i ∧ y = j)) (if (hgt s j - hgt s i - 1) * ld > lo * ((j : Int) - i) then hgt s j - hgt s i - 1 else lo) (if (hgt s j - hgt s i - 1) * ld > lo * ((j : Int) - i) then (j : Int) - i else ld) (if (hgt s j - hgt s i + 1) * hd < hi * ((j : Int) - i) then hgt s j - hgt s i + 1 else hi) (if (hgt s j - hgt s i + 1) * hd < hi * ((j : Int) - i) then (j : Int) - i else hd) := by
  have hr := hgt_diff s hij hj hs
  refine ⟨?_, ?_⟩
  · by_cases c : (hgt s j - hgt s i - 1) * ld > lo * ((j : Int) - i)
    · rw [if_pos c, if_pos c]
      exact h.l.yes hs hij hj (by unfold vLo; omega) c
    · rw [if_neg c, if_neg c]
      exact h.l.no c
  · have e1 : vHi s i j * hd = -((hgt s j - hgt s i + 1) * hd) := by unfold vHi; rw [Int.neg_mul]
    have e2 : -hi * ((j : Int) - i) = -(hi * ((j : Int) - i)) := Int.neg_mul _ _
    by_cases c : (hgt s j - hgt s i + 1) * hd < hi * ((j : Int) - i)
    · rw [if_pos c, if_pos c]
      exact h.h.yes hs hij hj (by unfold vHi; omega) (by rw [e1, e2]; omega)
    · rw [if_neg c, if_neg c]
      exact h.h.no (by rw [e1, e2]; omega)
theorem ends_bnd {s : ByteArray} {a b : Int} {P : Nat → Nat → Prop} {lo ld hi hd : Int} (h : ENDS s a b P lo ld hi hd) : (-200 ≤ lo ∧ lo ≤ 200) ∧ (1 ≤ ld ∧ ld ≤ 120) ∧ (-200 ≤ hi ∧ hi ≤ 200) ∧ (1 ≤ hd ∧ hd ≤ 120) := by
  have h1 := h.l.xb
  have h2 := h.h.xb
  exact ⟨h1, ⟨h.l.d1, h.l.d2⟩, by omega, ⟨h.h.d1, h.h.d2⟩⟩
end Go.Proofs.YtkmghekffehimaaDoor.Base
