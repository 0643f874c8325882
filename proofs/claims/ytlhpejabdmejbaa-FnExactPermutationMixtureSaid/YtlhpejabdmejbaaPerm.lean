/- Plain lemmas: rows that are doubly even hold a permutation (Birkhoff), and lists of permutations, each with a place that no later one has, are no more than (n - 1)^2 + 1. No condition. -/
import Derived.Test.YtlhpejabdmejbaaCond
namespace Go.Proofs.Ytlhpejabdmejbaa.Base
open Go.RowKit Go.Proofs.YtlhpejabdmejbaaW.PrintWords Go.Proofs.YtlhpejabdmejbaaW.PrintLast Go.Proofs.YtlhpejabdmejbaaW.PrintMore
set_option linter.unusedVariables false
set_option linter.unusedSimpArgs false
theorem sumN_mul (c : Int) : ∀ (n : Nat) (f : Nat → Int), sumN n (fun i => c * f i) = c * sumN n f
  | 0, _ => by simp [sumN]
  | n + 1, f => by simp only [sumN]; rw [sumN_mul c n f, Int.mul_add]
theorem sumN_one {n : Nat} {f : Nat → Int} {j : Nat} (hj : j < n) (h : ∀ i, i < n → i ≠ j → f i = 0) : sumN n f = f j := by
  rw [sumN_at (g := fun _ => 0) hj h, sumN_zero]
  (first | omega | (dsimp only at *; omega))
theorem sumN_pos {n : Nat} {f : Nat → Int} (h : 0 < sumN n f) : ∃ i, i < n ∧ 0 < f i := by
  refine Classical.byContradiction fun hc => ?_
  have h1 := sumN_le (n := n) (f := f) (g := fun _ => 0) (fun i hi => by
    refine Classical.byContradiction fun h2 => hc ⟨i, hi, by (first | omega | (dsimp only at *; omega))⟩)
  rw [sumN_zero] at h1
  (first | omega | (dsimp only at *; omega))
theorem sumN_two {n : Nat} {f : Nat → Int} (h : ∀ i, i < n → 0 ≤ f i) {a b : Nat} (ha : a < n) (hb : b < n) (hab : a ≠ b) : f a + f b ≤ sumN n f := by
  have h1 := sumN_lt (n := n) (f := fun i => if i = a then f a else 0) (g := f) (fun i hi => by
    by_cases c : i = a
    · subst c; simp
    · simp only [if_neg c]; exact h i hi) hb (f b) (by simp only [if_neg (Ne.symm hab)]; (first | omega | (dsimp only at *; omega)))
  rw [sumN_one ha (fun i _ hn => if_neg hn), if_pos rfl] at h1
  exact h1

def skp (p q : Nat) : Nat := if q < p then q else q + 1
theorem sumN_skip : ∀ {m p : Nat} (f : Nat → Int), p < m + 1 → sumN (m + 1) f = f p + sumN m (fun q => f (skp p q))
  | 0, p, f, h => by
    obtain rfl : p = 0 := by (first | omega | (dsimp only at *; omega))
    simp [sumN]
  | m + 1, p, f, h => by
    by_cases c : p = m + 1
    · subst c
      rw [sumN, sumN_congr (n := m + 1) (f := fun q => f (skp (m + 1) q)) (g := f) (fun i hi => by simp only [skp, if_pos hi])]
      (first | omega | (dsimp only at *; omega))
    · rw [sumN, sumN_skip f (show p < m + 1 by (first | omega | (dsimp only at *; omega)))]
      conv => rhs; rw [sumN]
      simp only [skp, if_neg (show ¬ m < p by (first | omega | (dsimp only at *; omega)))]
      (first | omega | (dsimp only at *; omega))
theorem dep : ∀ (d m : Nat) (v : Nat → Nat → Int), d < m → ∃ a : Nat → Int, (∃ q, q < m ∧ a q ≠ 0) ∧ ∀ j, j < d → sumN m (fun q => a q * v q j) = 0
  | 0, m, v, h => ⟨fun _ => 1, ⟨0, h, by simp⟩, fun j hj => absurd hj (Nat.not_lt_zero _)⟩
  | d + 1, 0, v, h => by (first | omega | (dsimp only at *; omega))
  | d + 1, m + 1, v, h => by
    by_cases c : ∃ p, p < m + 1 ∧ v p d ≠ 0
    · obtain ⟨p, hp, hv⟩ := c
      obtain ⟨b, ⟨q, hq, hb⟩, hz⟩ := dep d m (fun q j => v p d * v (skp p q) j - v (skp p q) d * v p j) (by (first | omega | (dsimp only at *; omega)))
      have key : ∀ j, j < d + 1 → sumN m (fun q => b q * (v p d * v (skp p q) j - v (skp p q) d * v p j)) = 0 := by
        intro j hj
        by_cases e : j = d
        · subst e
          rw [sumN_congr (g := fun _ => 0) (fun i _ => by
            have : v p j * v (skp p i) j - v (skp p i) j * v p j = 0 := by rw [Int.mul_comm]; (first | omega | (dsimp only at *; omega))
            rw [this, Int.mul_zero]), sumN_zero]
        · exact hz j (by (first | omega | (dsimp only at *; omega)))
      refine ⟨fun q => if q = p then - sumN m (fun q => b q * v (skp p q) d) else v p d * b (if q < p then q else q - 1), ⟨skp p q, ?_, ?_⟩, fun j hj => ?_⟩
      · unfold skp; (repeat' split) <;> omega
      · have h1 : skp p q ≠ p := by unfold skp; (repeat' split) <;> omega
        have h2 : (if skp p q < p then skp p q else skp p q - 1) = q := by unfold skp; (repeat' split) <;> omega
        simp only [if_neg h1, h2]
        exact Int.mul_ne_zero hv hb
      · rw [sumN_skip _ hp]
        have h3 := key j hj
        refine (congrArg (HAdd.hAdd _) (sumN_congr (g := fun q => v p d * b q * v (skp p q) j) (fun i _ => ?_))).trans ?_
        · have h1 : skp p i ≠ p := by unfold skp; (repeat' split) <;> omega
          have h2 : (if skp p i < p then skp p i else skp p i - 1) = i := by unfold skp; (repeat' split) <;> omega
          show (if skp p i = p then _ else v p d * b (if skp p i < p then skp p i else skp p i - 1)) * v (skp p i) j = _
          rw [if_neg h1, h2]
        have h4 : sumN m (fun q => b q * (v p d * v (skp p q) j - v (skp p q) d * v p j)) = sumN m (fun q => v p d * b q * v (skp p q) j) - v p j * sumN m (fun q => b q * v (skp p q) d) := by
          rw [← sumN_mul, ← sumN_sub]
          refine sumN_congr fun i _ => ?_
          (try dsimp only)
          rw [Int.mul_sub, ← Int.mul_assoc, Int.mul_comm (b i) (v p d), ← Int.mul_assoc (b i), Int.mul_comm _ (v p j)]
        rw [h4] at h3
        show (if p = p then - sumN m (fun q => b q * v (skp p q) d) else _) * v p j + sumN m (fun q => v p d * b q * v (skp p q) j) = 0
        rw [if_pos rfl, Int.neg_mul, Int.mul_comm _ (v p j)]
        (first | omega | (dsimp only at *; omega))
    · obtain ⟨a, ha, hz⟩ := dep d (m + 1) v (by (first | omega | (dsimp only at *; omega)))
      refine ⟨a, ha, fun j hj => ?_⟩
      by_cases e : j = d
      · subst e
        rw [sumN_congr (g := fun _ => 0) (fun i hi => by
          have : v i j = 0 := Classical.byContradiction fun h => c ⟨i, hi, h⟩
          rw [this, Int.mul_zero]), sumN_zero]
      · exact hz j (by (first | omega | (dsimp only at *; omega)))

def PERM (n : Nat) (f : Nat → Nat) : Prop := (∀ i, i < n → f i < n) ∧ ∀ i j, i < n → j < n → f i = f j → i = j
def dlt (a b : Nat) : Int := if a = b then 1 else 0
theorem dlt_eq {a b : Nat} (h : a = b) : dlt a b = 1 := if_pos h
theorem dlt_ne {a b : Nat} (h : a ≠ b) : dlt a b = 0 := if_neg h
theorem dlt_row {n : Nat} {f : Nat → Nat} (h : PERM n f) {i : Nat} (hi : i < n) : sumN n (fun c => dlt (f i) c) = 1 := by
  rw [sumN_one (h.1 i hi) (fun c _ hc => dlt_ne (Ne.symm hc))]
  exact dlt_eq rfl
theorem perm_onto {n : Nat} {f : Nat → Nat} (h : PERM n f) {c : Nat} (hc : c < n) : ∃ i, i < n ∧ f i = c := by
  have h1 : ∀ k, k < n → sumN n (fun i => dlt (f i) k) ≤ 1 := by
    intro k hk
    by_cases e : ∃ i, i < n ∧ f i = k
    · obtain ⟨i, hi, rfl⟩ := e
      rw [sumN_one hi (fun j hj hn => dlt_ne (fun e => hn (h.2 j i hj hi e))), dlt_eq rfl]
      exact Int.le_refl _
    · rw [sumN_congr (g := fun _ => 0) (fun i hi => dlt_ne (fun e2 => e ⟨i, hi, e2⟩)), sumN_zero]
      (first | omega | (dsimp only at *; omega))
  refine Classical.byContradiction fun hn => ?_
  have h2 : sumN n (fun k => sumN n (fun i => dlt (f i) k)) + 1 ≤ sumN n (fun _ => 1) :=
    sumN_lt h1 hc 1 (by
      show sumN n (fun i => dlt (f i) c) + 1 ≤ 1
      rw [sumN_congr (g := fun _ => 0) (fun i hi => dlt_ne (fun e2 => hn ⟨i, hi, e2⟩)), sumN_zero]
      (first | omega | (dsimp only at *; omega)))
  rw [← sumN_swap, sumN_congr (n := n) (f := fun i => sumN n (fun k => dlt (f i) k)) (g := fun _ => 1) (fun i hi => dlt_row h hi)] at h2
  (first | omega | (dsimp only at *; omega))
theorem dlt_col {n : Nat} {f : Nat → Nat} (h : PERM n f) {c : Nat} (hc : c < n) : sumN n (fun i => dlt (f i) c) = 1 := by
  obtain ⟨i, hi, rfl⟩ := perm_onto h hc
  rw [sumN_one hi (fun j hj hn => dlt_ne (fun e => hn (h.2 j i hj hi e)))]
  exact dlt_eq rfl
theorem perm_count {n m : Nat} (hn : 1 ≤ n) (f : Nat → Nat → Nat) (hp : ∀ q, q < m → PERM n (f q)) (ho : ∀ q, q < m → ∃ i, i < n ∧ ∀ q', q < q' → q' < m → f q' i ≠ f q i) : m ≤ (n - 1) * (n - 1) + 1 := by
  refine Classical.byContradiction fun hc => ?_
  obtain ⟨a, ⟨q0, hq0, ha0⟩, hz⟩ := dep ((n - 1) * (n - 1) + 1) m (fun q j => if j = (n - 1) * (n - 1) then 1 else dlt (f q (j / (n - 1))) (j % (n - 1))) (by (first | omega | (dsimp only at *; omega)))
  have hsum : sumN m a = 0 := by
    have := hz ((n - 1) * (n - 1)) (by (first | omega | (dsimp only at *; omega)))
    simpa using this
  have hin : ∀ i c, i < n - 1 → c < n - 1 → sumN m (fun q => a q * dlt (f q i) c) = 0 := by
    intro i c hi hc
    have hlt : (n - 1) * i + c < (n - 1) * (n - 1) := by
      have h1 : (n - 1) * i + (n - 1) ≤ (n - 1) * (n - 1) := by
        rw [← Nat.mul_succ]; exact Nat.mul_le_mul_left _ (by (first | omega | (dsimp only at *; omega)))
      (first | omega | (dsimp only at *; omega))
    have := hz ((n - 1) * i + c) (by (first | omega | (dsimp only at *; omega)))
    simp only [if_neg (show ¬ (n - 1) * i + c = (n - 1) * (n - 1) by (first | omega | (dsimp only at *; omega))), Nat.mul_add_mod, Nat.mod_eq_of_lt hc, Nat.mul_add_div (show 0 < n - 1 by (first | omega | (dsimp only at *; omega))), Nat.div_eq_of_lt hc, Nat.add_zero] at this
    exact this
  -- whole rows and columns add up to nothing
  have hrow : ∀ i, i < n → sumN n (fun c => sumN m (fun q => a q * dlt (f q i) c)) = 0 := by
    intro i hi
    rw [← sumN_swap, ← hsum]
    refine sumN_congr fun q hq => ?_
    (try dsimp only)
    rw [sumN_mul, dlt_row (hp q hq) hi, Int.mul_one]
  have hcol : ∀ c, c < n → sumN n (fun i => sumN m (fun q => a q * dlt (f q i) c)) = 0 := by
    intro c hc
    rw [← sumN_swap, ← hsum]
    refine sumN_congr fun q hq => ?_
    (try dsimp only)
    rw [sumN_mul, dlt_col (hp q hq) hc, Int.mul_one]
  have hlast : ∀ i, i < n - 1 → sumN m (fun q => a q * dlt (f q i) (n - 1)) = 0 := by
    intro i hi
    rw [← hrow i (by (first | omega | (dsimp only at *; omega)))]
    symm
    rw [sumN_one (j := n - 1) (by (first | omega | (dsimp only at *; omega)))]
    intro c hc hne
    exact hin i c hi (by (first | omega | (dsimp only at *; omega)))
  have hall : ∀ i c, i < n → c < n → sumN m (fun q => a q * dlt (f q i) c) = 0 := by
    intro i c hi hc
    by_cases c1 : i = n - 1
    · subst c1
      rw [← hcol c hc]
      symm
      rw [sumN_one (j := n - 1) (by (first | omega | (dsimp only at *; omega)))]
      intro i2 hi2 hne
      by_cases c2 : c = n - 1
      · subst c2; exact hlast i2 (by (first | omega | (dsimp only at *; omega)))
      · exact hin i2 c (by (first | omega | (dsimp only at *; omega))) (by (first | omega | (dsimp only at *; omega)))
    · by_cases c2 : c = n - 1
      · subst c2; exact hlast i (by (first | omega | (dsimp only at *; omega)))
      · exact hin i c (by (first | omega | (dsimp only at *; omega))) (by (first | omega | (dsimp only at *; omega)))
  -- the first that counts
  have first : ∀ q, q < m → (∀ q', q' < q → a q' = 0) → a q = 0 := by
    intro q hq hb
    obtain ⟨i, hi, hne⟩ := ho q hq
    have h1 := hall i (f q i) hi ((hp q hq).1 i hi)
    rw [sumN_one hq] at h1
    · rw [dlt_eq rfl, Int.mul_one] at h1
      exact h1
    · intro q' hq' hn'
      rcases Nat.lt_or_gt_of_ne hn' with h2 | h2
      · rw [hb q' h2, Int.zero_mul]
      · rw [dlt_ne (hne q' h2 hq'), Int.mul_zero]
  have all0 : ∀ q, q < m → a q = 0 := by
    intro q
    induction q using Nat.strongRecOn with
    | _ q ih => exact fun hq => first q hq (fun q' h' => ih q' h' (by (first | omega | (dsimp only at *; omega))))
  exact ha0 (all0 q0 hq0)

theorem birkhoff {n : Nat} {M : Nat → Nat → Int} {s : Int} (hs : 0 < s) (h0 : ∀ i k, i < n → k < n → 0 ≤ M i k) (hr : ∀ i, i < n → sumN n (M i) = s) (hc : ∀ k, k < n → sumN n (fun i => M i k) = s) : ∃ f, PERM n f ∧ ∀ i, i < n → 0 < M i (f i) := by
  let g : GRID := { n := n, m := n, low := fun _ _ => 0, high := fun i k => if 0 < M i k then 1 else 0, ac := fun _ => 1, dn := fun _ => 1 }
  have hok : g.Ok := by
    intro i k _ _
    show (0 : Int) ≤ if 0 < M i k then 1 else 0
    split <;> (first | omega | (dsimp only at *; omega))
  have hcond : g.Cond := by
    refine ⟨rfl, fun A => ?_⟩
    have hleft : ∀ k, g.left k = 1 := fun k => by
      show (1 : Int) - sumN n (fun _ => 0) = 1
      rw [sumN_zero]; rfl
    have hfree : ∀ k, g.free A k = sumN n (fun i => pick1 (A i) (if 0 < M i k then 1 else 0)) := fun k => by
      show sumN n (fun i => pick1 (A i) ((if 0 < M i k then 1 else 0) - 0)) = _
      simp only [Int.sub_zero]
    have hhave : g.have_ A = sumN n (fun i => pick1 (A i) 1) := by
      show sumN n (fun i => pick1 (A i) (1 - sumN n (fun _ => 0))) = _
      rw [sumN_zero]; rfl
    have hfz : ∀ k, 0 ≤ g.free A k := fun k => by
      rw [hfree]; exact sumN_nonneg fun i _ => by (try dsimp only); unfold pick1; (repeat' split) <;> omega
    show g.have_ A - sumN n (fun k => min (g.left k) (g.free A k)) ≤ 0
    have h1 : s * g.have_ A = sumN n (fun k => sumN n (fun i => pick1 (A i) (M i k))) := by
      rw [hhave, ← sumN_swap, ← sumN_mul]
      refine sumN_congr fun i hi => ?_
      (try dsimp only)
      cases hA : A i
      · simp only [pick1, Bool.false_eq_true, if_false, sumN_zero, Int.mul_zero]
      · simp only [pick1, if_true, Int.mul_one]
        exact (hr i hi).symm
    have h2 : ∀ k, k < n → sumN n (fun i => pick1 (A i) (M i k)) ≤ s * min (g.left k) (g.free A k) := by
      intro k hk
      rw [hleft]
      by_cases e : g.free A k = 0
      · rw [e, show min (1 : Int) 0 = 0 by (first | omega | (dsimp only at *; omega)), Int.mul_zero]
        rw [hfree] at e
        have hz := sumN_zeros (n := n) (f := fun i => pick1 (A i) (if 0 < M i k then 1 else 0)) (fun i _ => by (try dsimp only); unfold pick1; (repeat' split) <;> omega) (by (first | omega | (dsimp only at *; omega)))
        have := sumN_le (n := n) (f := fun i => pick1 (A i) (M i k)) (g := fun _ => 0) (fun i hi => by
          have h3 := hz i hi
          unfold pick1 at h3 ⊢
          cases hA : A i
          · simp
          · simp only [hA, if_true] at h3 ⊢
            by_cases c : 0 < M i k
            · rw [if_pos c] at h3; (first | omega | (dsimp only at *; omega))
            · (first | omega | (dsimp only at *; omega)))
        rw [sumN_zero] at this
        exact this
      · have := hfz k
        rw [show min (1 : Int) (g.free A k) = 1 by (first | omega | (dsimp only at *; omega)), Int.mul_one, ← hc k hk]
        exact sumN_le fun i hi => by
          unfold pick1
          have := h0 i k hi hk
          split <;> (first | omega | (dsimp only at *; omega))
    have h3 := sumN_le h2
    rw [← h1, sumN_mul] at h3
    have := Int.le_of_mul_le_mul_left h3 hs
    (first | omega | (dsimp only at *; omega))
  obtain ⟨x, hx1, hx2, hx3⟩ := (GRID.cond_iff hok).1 hcond
  have hx0 : ∀ i k, i < n → k < n → 0 ≤ x i k := fun i k hi hk => (hx1 i k hi hk).1
  have hex : ∀ i, ∃ k, i < n → k < n ∧ 0 < x i k := by
    intro i
    by_cases hi : i < n
    · obtain ⟨k, hk, hp⟩ := sumN_pos (n := n) (f := x i) (by rw [show sumN n (x i) = 1 from hx2 i hi]; (first | omega | (dsimp only at *; omega)))
      exact ⟨k, fun _ => ⟨hk, hp⟩⟩
    · exact ⟨0, fun h => absurd h hi⟩
  refine ⟨fun i => Classical.choose (hex i), ⟨fun i hi => (Classical.choose_spec (hex i) hi).1, fun i j hi hj e => ?_⟩, fun i hi => ?_⟩
  · refine Classical.byContradiction fun hne => ?_
    have a := Classical.choose_spec (hex i) hi
    have b := Classical.choose_spec (hex j) hj
    have e' : Classical.choose (hex i) = Classical.choose (hex j) := e
    rw [← e'] at b
    have h1 := sumN_two (n := n) (f := fun i' => x i' (Classical.choose (hex i))) (fun i' hi' => hx0 i' _ hi' a.1) hi hj hne
    have h2 : sumN n (fun i' => x i' (Classical.choose (hex i))) = 1 := hx3 _ a.1
    have := a.2
    have := b.2
    (first | omega | (dsimp only at *; omega))
  · have a := Classical.choose_spec (hex i) hi
    have h1 : x i (Classical.choose (hex i)) ≤ if 0 < M i (Classical.choose (hex i)) then 1 else 0 := (hx1 i _ hi a.1).2
    by_cases c : 0 < M i (Classical.choose (hex i))
    · exact c
    · rw [if_neg c] at h1
      have := a.2
      (first | omega | (dsimp only at *; omega))
end Go.Proofs.Ytlhpejabdmejbaa.Base
