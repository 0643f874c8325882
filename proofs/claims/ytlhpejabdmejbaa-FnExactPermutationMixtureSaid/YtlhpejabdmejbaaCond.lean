/- Plain lemmas: integers between bounds with given sums of rows and columns are there just where no set of rows has more left than the columns take. No condition. -/
import Derived.Test.YtlhpejabdmejbaaBase
namespace Go.Proofs.Ytlhpejabdmejbaa.Base
open Go.RowKit Go.Proofs.YtlhpejabdmejbaaW.PrintWords Go.Proofs.YtlhpejabdmejbaaW.PrintLast Go.Proofs.YtlhpejabdmejbaaW.PrintMore
set_option linter.unusedVariables false
set_option linter.unusedSimpArgs false
def sumN : Nat → (Nat → Int) → Int
  | 0, _ => 0
  | n + 1, f => sumN n f + f n
theorem sumN_congr : ∀ {n : Nat} {f g : Nat → Int}, (∀ i, i < n → f i = g i) → sumN n f = sumN n g
  | 0, _, _, _ => rfl
  | n + 1, f, g, h => by simp only [sumN]; rw [sumN_congr (fun i hi => h i (by (first | omega | (dsimp only at *; omega)))), h n (by (first | omega | (dsimp only at *; omega)))]
theorem sumN_add : ∀ (n : Nat) (f g : Nat → Int), sumN n (fun i => f i + g i) = sumN n f + sumN n g
  | 0, _, _ => rfl
  | n + 1, f, g => by simp only [sumN]; rw [sumN_add n f g]; (first | omega | (dsimp only at *; omega))
theorem sumN_sub : ∀ (n : Nat) (f g : Nat → Int), sumN n (fun i => f i - g i) = sumN n f - sumN n g
  | 0, _, _ => rfl
  | n + 1, f, g => by simp only [sumN]; rw [sumN_sub n f g]; (first | omega | (dsimp only at *; omega))
theorem sumN_le : ∀ {n : Nat} {f g : Nat → Int}, (∀ i, i < n → f i ≤ g i) → sumN n f ≤ sumN n g
  | 0, _, _, _ => Int.le_refl _
  | n + 1, f, g, h => by
    simp only [sumN]
    have := sumN_le (n := n) (f := f) (g := g) (fun i hi => h i (by (first | omega | (dsimp only at *; omega))))
    have := h n (by (first | omega | (dsimp only at *; omega)))
    (first | omega | (dsimp only at *; omega))
theorem sumN_zero : ∀ (n : Nat), sumN n (fun _ => 0) = 0
  | 0 => rfl
  | n + 1 => by simp only [sumN]; rw [sumN_zero n]; rfl
theorem sumN_lt {n : Nat} {f g : Nat → Int} (h : ∀ i, i < n → f i ≤ g i) {j : Nat} (hj : j < n) (d : Int) (hd : f j + d ≤ g j) : sumN n f + d ≤ sumN n g := by
  induction n with
  | zero => (first | omega | (dsimp only at *; omega))
  | succ n ih =>
    simp only [sumN]
    by_cases c : j = n
    · subst c
      have := sumN_le (n := j) (f := f) (g := g) (fun i hi => h i (by (first | omega | (dsimp only at *; omega))))
      (first | omega | (dsimp only at *; omega))
    · have := ih (fun i hi => h i (by (first | omega | (dsimp only at *; omega)))) (by (first | omega | (dsimp only at *; omega)))
      have := h n (by (first | omega | (dsimp only at *; omega)))
      (first | omega | (dsimp only at *; omega))
theorem sumN_nonneg {n : Nat} {f : Nat → Int} (h : ∀ i, i < n → 0 ≤ f i) : 0 ≤ sumN n f := by
  have := sumN_le (n := n) (f := fun _ => 0) (g := f) h
  rw [sumN_zero] at this
  exact this
theorem sumN_zeros {n : Nat} {f : Nat → Int} (h : ∀ i, i < n → 0 ≤ f i) (hs : sumN n f ≤ 0) : ∀ i, i < n → f i = 0 := by
  intro i hi
  have h1 := sumN_lt (n := n) (f := fun _ => 0) (g := f) h hi (f i) (by (first | omega | (dsimp only at *; omega)))
  rw [sumN_zero] at h1
  have := h i hi
  (first | omega | (dsimp only at *; omega))
theorem sumN_swap : ∀ (n m : Nat) (f : Nat → Nat → Int), sumN n (fun i => sumN m (f i)) = sumN m (fun k => sumN n (fun i => f i k))
  | 0, m, f => by simp only [sumN]; rw [sumN_zero]
  | n + 1, m, f => by
    simp only [sumN]
    rw [sumN_swap n m f, ← sumN_add]
theorem sumN_at {n : Nat} {f g : Nat → Int} {j : Nat} (hj : j < n) (h : ∀ i, i < n → i ≠ j → f i = g i) : sumN n f = sumN n g + (f j - g j) := by
  induction n with
  | zero => (first | omega | (dsimp only at *; omega))
  | succ n ih =>
    simp only [sumN]
    by_cases c : j = n
    · subst c
      rw [sumN_congr (f := f) (g := g) (fun i hi => h i (by (first | omega | (dsimp only at *; omega))) (by (first | omega | (dsimp only at *; omega))))]
      (first | omega | (dsimp only at *; omega))
    · rw [ih (by (first | omega | (dsimp only at *; omega))) (fun i hi hne => h i (by (first | omega | (dsimp only at *; omega))) hne), h n (by (first | omega | (dsimp only at *; omega))) (by (first | omega | (dsimp only at *; omega)))]
      (first | omega | (dsimp only at *; omega))
structure GRID where
  n : Nat
  m : Nat
  low : Nat → Nat → Int
  high : Nat → Nat → Int
  ac : Nat → Int
  dn : Nat → Int
def pick1 (b : Bool) (x : Int) : Int := if b then x else 0
namespace GRID
set_option linter.unusedVariables false
set_option linter.unusedSimpArgs false
def left (g : GRID) (k : Nat) : Int := g.dn k - sumN g.n (fun i => g.low i k)
def free (g : GRID) (A : Nat → Bool) (k : Nat) : Int := sumN g.n (fun i => pick1 (A i) (g.high i k - g.low i k))
def have_ (g : GRID) (A : Nat → Bool) : Int := sumN g.n (fun i => pick1 (A i) (g.ac i - sumN g.m (g.low i)))
def more (g : GRID) (A : Nat → Bool) : Int := g.have_ A - sumN g.m (fun k => min (g.left k) (g.free A k))
def Cond (g : GRID) : Prop := sumN g.n g.ac = sumN g.m g.dn ∧ ∀ A, g.more A ≤ 0
def Ok (g : GRID) : Prop := ∀ i k, i < g.n → k < g.m → g.low i k ≤ g.high i k
def Fill (g : GRID) (x : Nat → Nat → Int) : Prop := (∀ i k, i < g.n → k < g.m → g.low i k ≤ x i k ∧ x i k ≤ g.high i k) ∧ (∀ i, i < g.n → sumN g.m (x i) = g.ac i) ∧ ∀ k, k < g.m → sumN g.n (fun i => x i k) = g.dn k
theorem cond_of_fill {g : GRID} {x : Nat → Nat → Int} (h : g.Fill x) : g.Cond := by
  obtain ⟨h1, h2, h3⟩ := h
  refine ⟨?_, fun A => ?_⟩
  · rw [← sumN_congr (f := fun i => sumN g.m (x i)) (g := g.ac) h2, sumN_swap]
    exact sumN_congr h3
  · have e1 : g.have_ A = sumN g.m (fun k => sumN g.n (fun i => pick1 (A i) (x i k - g.low i k))) := by
      unfold have_
      rw [← sumN_swap]
      refine sumN_congr fun i hi => ?_
      (try dsimp only)
      unfold pick1
      cases A i with
      | true => simp only [if_true]; rw [sumN_sub, h2 i hi]
      | false => simp only [Bool.false_eq_true, if_false]; rw [sumN_zero]
    unfold more
    rw [e1]
    have : sumN g.m (fun k => sumN g.n (fun i => pick1 (A i) (x i k - g.low i k))) ≤ sumN g.m (fun k => min (g.left k) (g.free A k)) := by
      refine sumN_le fun k hk => ?_
      (try dsimp only)
      have a1 : sumN g.n (fun i => pick1 (A i) (x i k - g.low i k)) ≤ g.free A k := by
        unfold free
        refine sumN_le fun i hi => ?_
        (try dsimp only)
        have := h1 i k hi hk
        unfold pick1
        split <;> (first | omega | (dsimp only at *; omega))
      have a2 : sumN g.n (fun i => pick1 (A i) (x i k - g.low i k)) ≤ g.left k := by
        unfold left
        rw [← h3 k hk, ← sumN_sub]
        refine sumN_le fun i hi => ?_
        (try dsimp only)
        have := h1 i k hi hk
        unfold pick1
        split <;> (first | omega | (dsimp only at *; omega))
      (first | omega | (dsimp only at *; omega))
    (first | omega | (dsimp only at *; omega))
def setHigh (g : GRID) (i k : Nat) (v : Int) : GRID := { g with high := fun a b => if a = i ∧ b = k then v else g.high a b }
def setLow (g : GRID) (i k : Nat) (v : Int) : GRID := { g with low := fun a b => if a = i ∧ b = k then v else g.low a b }
theorem uncross {g : GRID} (hok : g.Ok) (A B : Nat → Bool) {i k : Nat} (hi : i < g.n) (hk : k < g.m) (hA : A i = true) (hB : B i = false) (hlt : g.low i k < g.high i k) (h1 : g.free A k ≤ g.left k) (h2 : g.left k ≤ g.free B k) :
    g.more A + g.more B + 1 ≤ g.more (fun j => A j || B j) + g.more (fun j => A j && B j) := by
  have e1 : g.have_ (fun j => A j || B j) + g.have_ (fun j => A j && B j) = g.have_ A + g.have_ B := by
    unfold have_
    rw [← sumN_add, ← sumN_add]
    refine sumN_congr fun j _ => ?_
    (try dsimp only)
    unfold pick1
    cases A j <;> cases B j <;> simp
  have e2 : ∀ c, g.free (fun j => A j || B j) c + g.free (fun j => A j && B j) c = g.free A c + g.free B c := by
    intro c
    unfold free
    rw [← sumN_add, ← sumN_add]
    refine sumN_congr fun j _ => ?_
    (try dsimp only)
    unfold pick1
    cases A j <;> cases B j <;> simp
  have leA : ∀ c, c < g.m → g.free (fun j => A j && B j) c ≤ g.free A c := by
    intro c hc
    unfold free
    refine sumN_le fun j hj => ?_
    (try dsimp only)
    have := hok j c hj hc
    unfold pick1
    cases A j <;> cases B j <;> simp <;> (first | omega | (dsimp only at *; omega))
  have leB : ∀ c, c < g.m → g.free (fun j => A j && B j) c ≤ g.free B c := by
    intro c hc
    unfold free
    refine sumN_le fun j hj => ?_
    (try dsimp only)
    have := hok j c hj hc
    unfold pick1
    cases A j <;> cases B j <;> simp <;> (first | omega | (dsimp only at *; omega))
  have ltA : g.free (fun j => A j && B j) k + 1 ≤ g.free A k := by
    unfold free
    refine sumN_lt (fun j hj => ?_) hi 1 ?_
    · have := hok j k hj hk
      (try dsimp only)
      unfold pick1
      cases A j <;> cases B j <;> simp <;> (first | omega | (dsimp only at *; omega))
    · simp only [pick1, hA, hB, Bool.and_false, Bool.false_eq_true, if_false, if_true]
      (first | omega | (dsimp only at *; omega))
  have key : sumN g.m (fun c => min (g.left c) (g.free (fun j => A j || B j) c) + min (g.left c) (g.free (fun j => A j && B j) c)) + 1 ≤ sumN g.m (fun c => min (g.left c) (g.free A c) + min (g.left c) (g.free B c)) := by
    refine sumN_lt (fun c hc => ?_) hk 1 ?_
    · have := e2 c
      have := leA c hc
      have := leB c hc
      (first | omega | (dsimp only at *; omega))
    · have := e2 k
      (first | omega | (dsimp only at *; omega))
  rw [sumN_add, sumN_add] at key
  unfold more
  (first | omega | (dsimp only at *; omega))
theorem fill_of_cond : ∀ (s : Nat) (g : GRID), g.Ok → sumN g.n (fun i => sumN g.m (fun k => g.high i k - g.low i k)) = s → g.Cond → ∃ x, g.Fill x := by
  intro s
  induction s using Nat.strongRecOn with
  | _ s ih =>
    intro g hok hs hc
    by_cases hall : ∀ i k, i < g.n → k < g.m → g.low i k = g.high i k
    · refine ⟨g.low, fun i k hi hk => ⟨Int.le_refl _, hok i k hi hk⟩, ?_⟩
      have f0 : ∀ A k, k < g.m → g.free A k = 0 := by
        intro A k hk
        unfold free
        rw [sumN_congr (g := fun _ => 0) (fun i hi => by have := hall i k hi hk; unfold pick1; split <;> (first | omega | (dsimp only at *; omega))), sumN_zero]
      have m0 := hc.2 (fun _ => false)
      have hh : g.have_ (fun _ => false) = 0 := by
        unfold have_ pick1
        simp only [Bool.false_eq_true, if_false]
        exact sumN_zero _
      unfold more at m0
      rw [hh, sumN_congr (g := fun k => min (g.left k) 0) (fun k hk => by rw [f0 _ k hk])] at m0
      have z0 : ∀ k, k < g.m → -min (g.left k) 0 = 0 := sumN_zeros (fun k _ => by (first | omega | (dsimp only at *; omega))) (by
        have := sumN_sub g.m (fun _ => 0) (fun k => min (g.left k) 0)
        rw [sumN_zero] at this
        rw [sumN_congr (f := fun k => -min (g.left k) 0) (g := fun k => 0 - min (g.left k) 0) (fun k _ => by (first | omega | (dsimp only at *; omega)))]
        (first | omega | (dsimp only at *; omega)))
      have one : ∀ i, i < g.n → 0 ≤ -(g.ac i - sumN g.m (g.low i)) := by
        intro i hi
        have m1 := hc.2 (fun j => decide (j = i))
        unfold more at m1
        rw [sumN_congr (g := fun k => min (g.left k) 0) (fun k hk => by rw [f0 _ k hk]), sumN_congr (g := fun _ => 0) (fun k hk => by have := z0 k hk; (first | omega | (dsimp only at *; omega))), sumN_zero] at m1
        have : g.have_ (fun j => decide (j = i)) = g.ac i - sumN g.m (g.low i) := by
          unfold have_
          rw [sumN_at (g := fun _ => 0) hi (fun j _ hne => by simp [pick1, hne]), sumN_zero]
          simp [pick1]
        (first | omega | (dsimp only at *; omega))
      have tot : sumN g.n (fun i => -(g.ac i - sumN g.m (g.low i))) ≤ 0 := by
        have a1 : sumN g.n (fun i => g.ac i - sumN g.m (g.low i)) = sumN g.n g.ac - sumN g.n (fun i => sumN g.m (g.low i)) := sumN_sub _ _ _
        have a2 : sumN g.m (fun k => g.left k) = sumN g.m g.dn - sumN g.m (fun k => sumN g.n (fun i => g.low i k)) := by unfold left; exact sumN_sub _ _ _
        rw [← sumN_swap] at a2
        have a3 : 0 ≤ sumN g.m (fun k => g.left k) := sumN_nonneg fun k hk => by have := z0 k hk; (first | omega | (dsimp only at *; omega))
        have a4 := hc.1
        have a5 : sumN g.n (fun i => -(g.ac i - sumN g.m (g.low i))) = sumN g.n (fun _ => 0) - sumN g.n (fun i => g.ac i - sumN g.m (g.low i)) := by
          rw [← sumN_sub]
          exact sumN_congr fun i _ => by (first | omega | (dsimp only at *; omega))
        rw [sumN_zero] at a5
        (first | omega | (dsimp only at *; omega))
      have rows0 := sumN_zeros one tot
      refine ⟨fun i hi => by have := rows0 i hi; (first | omega | (dsimp only at *; omega)), ?_⟩
      have a1 : sumN g.n (fun i => g.ac i - sumN g.m (g.low i)) = sumN g.n g.ac - sumN g.n (fun i => sumN g.m (g.low i)) := sumN_sub _ _ _
      rw [sumN_congr (g := fun _ => 0) (fun i hi => by have := rows0 i hi; (first | omega | (dsimp only at *; omega))), sumN_zero] at a1
      have a2 : sumN g.m (fun k => g.left k) = sumN g.m g.dn - sumN g.m (fun k => sumN g.n (fun i => g.low i k)) := by unfold left; exact sumN_sub _ _ _
      rw [← sumN_swap] at a2
      have a4 := hc.1
      intro k hk
      have := sumN_zeros (f := fun k => g.left k) (fun k hk => by have := z0 k hk; (first | omega | (dsimp only at *; omega))) (by (first | omega | (dsimp only at *; omega))) k hk
      simp only [left] at this
      (first | omega | (dsimp only at *; omega))
    · obtain ⟨i, k, hi, hk, hne⟩ : ∃ i k, i < g.n ∧ k < g.m ∧ g.low i k ≠ g.high i k := by
        by_cases c : ∃ i k, i < g.n ∧ k < g.m ∧ g.low i k ≠ g.high i k
        · exact c
        · exfalso
          apply hall
          intro i k hi hk
          by_cases e : g.low i k = g.high i k
          · exact e
          · exact absurd ⟨i, k, hi, hk, e⟩ c
      have hlt : g.low i k < g.high i k := by have := hok i k hi hk; (first | omega | (dsimp only at *; omega))
      -- the two ways to go on
      have sizeAt : ∀ f : Nat → Nat → Int, (∀ a b, ¬ (a = i ∧ b = k) → f a b = g.high a b - g.low a b) → f i k = g.high i k - g.low i k - 1 → sumN g.n (fun a => sumN g.m (f a)) = s - 1 := by
        intro f h1 h2
        rw [sumN_at (g := fun a => sumN g.m (fun b => g.high a b - g.low a b)) hi (fun a _ ha => sumN_congr fun b _ => h1 a b (fun e => ha e.1)), hs, sumN_at (g := fun b => g.high i b - g.low i b) hk (fun b _ hb => h1 i b (fun e => hb e.2)), h2]
        (first | omega | (dsimp only at *; omega))
      have spos : 1 ≤ s := by
        have : (0 : Int) + 1 ≤ s := by
          rw [← hs]
          have := sumN_lt (n := g.n) (f := fun _ => 0) (g := fun a => sumN g.m (fun b => g.high a b - g.low a b)) (fun a ha => sumN_nonneg fun b hb => by have := hok a b ha hb; (first | omega | (dsimp only at *; omega))) hi 1 (by
            have := sumN_lt (n := g.m) (f := fun _ => 0) (g := fun b => g.high i b - g.low i b) (fun b hb => by have := hok i b hi hb; (first | omega | (dsimp only at *; omega))) hk 1 (by (first | omega | (dsimp only at *; omega)))
            rw [sumN_zero] at this
            exact this)
          rw [sumN_zero] at this
          exact this
        (first | omega | (dsimp only at *; omega))
      by_cases cH : (g.setHigh i k (g.high i k - 1)).Cond
      · obtain ⟨x, hx⟩ := ih (s - 1) (by (first | omega | (dsimp only at *; omega))) (g.setHigh i k (g.high i k - 1)) (fun a b ha hb => by
            have := hok a b ha hb
            simp only [setHigh]
            split <;> rename_i c
            · rw [c.1, c.2]; (first | omega | (dsimp only at *; omega))
            · exact this) (by
            show sumN g.n (fun a => sumN g.m (fun b => (g.setHigh i k (g.high i k - 1)).high a b - (g.setHigh i k (g.high i k - 1)).low a b)) = _
            rw [sizeAt _ (fun a b hab => by simp only [setHigh]; rw [if_neg hab]) (by simp only [setHigh, and_self, if_true]; (first | omega | (dsimp only at *; omega)))]
            (first | omega | (dsimp only at *; omega))) cH
        refine ⟨x, fun a b ha hb => ?_, hx.2⟩
        have := hx.1 a b ha hb
        simp only [setHigh] at this
        split at this
        · rename_i c
          rw [c.1, c.2] at *
          (first | omega | (dsimp only at *; omega))
        · exact this
      · by_cases cL : (g.setLow i k (g.low i k + 1)).Cond
        · obtain ⟨x, hx⟩ := ih (s - 1) (by (first | omega | (dsimp only at *; omega))) (g.setLow i k (g.low i k + 1)) (fun a b ha hb => by
              have := hok a b ha hb
              simp only [setLow]
              split <;> rename_i c
              · rw [c.1, c.2]; (first | omega | (dsimp only at *; omega))
              · exact this) (by
              show sumN g.n (fun a => sumN g.m (fun b => (g.setLow i k (g.low i k + 1)).high a b - (g.setLow i k (g.low i k + 1)).low a b)) = _
              rw [sizeAt _ (fun a b hab => by simp only [setLow]; rw [if_neg hab]) (by simp only [setLow, and_self, if_true]; (first | omega | (dsimp only at *; omega)))]
              (first | omega | (dsimp only at *; omega))) cL
          refine ⟨x, fun a b ha hb => ?_, hx.2⟩
          have := hx.1 a b ha hb
          simp only [setLow] at this
          split at this
          · rename_i c
            rw [c.1, c.2] at *
            (first | omega | (dsimp only at *; omega))
          · exact this
        · exfalso
          have tH : ∃ A, 0 < (g.setHigh i k (g.high i k - 1)).more A := by
            by_cases c : ∃ A, 0 < (g.setHigh i k (g.high i k - 1)).more A
            · exact c
            · exact absurd ⟨hc.1, fun A => by by_cases h : (g.setHigh i k (g.high i k - 1)).more A ≤ 0; exact h; exact absurd ⟨A, by (first | omega | (dsimp only at *; omega))⟩ c⟩ cH
          have tL : ∃ A, 0 < (g.setLow i k (g.low i k + 1)).more A := by
            by_cases c : ∃ A, 0 < (g.setLow i k (g.low i k + 1)).more A
            · exact c
            · exact absurd ⟨hc.1, fun A => by by_cases h : (g.setLow i k (g.low i k + 1)).more A ≤ 0; exact h; exact absurd ⟨A, by (first | omega | (dsimp only at *; omega))⟩ c⟩ cL
          obtain ⟨A, hA⟩ := tH
          obtain ⟨B, hB⟩ := tL
          have mA := hc.2 A
          have mB := hc.2 B
          -- what lowering the high end does
          have fH : ∀ c, c < g.m → (g.setHigh i k (g.high i k - 1)).free A c = g.free A c - (if c = k then pick1 (A i) 1 else 0) := by
            intro c _
            unfold free
            by_cases e : c = k
            · subst e
              rw [if_pos rfl]
              have := sumN_at (n := g.n) (f := fun a => pick1 (A a) ((g.setHigh i c (g.high i c - 1)).high a c - g.low a c)) (g := fun a => pick1 (A a) (g.high a c - g.low a c)) hi (fun a _ ha => by simp [setHigh, ha])
              show sumN g.n (fun a => pick1 (A a) ((g.setHigh i c (g.high i c - 1)).high a c - g.low a c)) = _
              rw [this]
              simp only [setHigh, and_self, if_true]
              unfold pick1
              split <;> (first | omega | (dsimp only at *; omega))
            · rw [if_neg e]
              show sumN g.n (fun a => pick1 (A a) ((g.setHigh i k (g.high i k - 1)).high a c - g.low a c)) = _
              rw [sumN_congr (g := fun a => pick1 (A a) (g.high a c - g.low a c)) (fun a _ => by simp [setHigh, e])]
              (first | omega | (dsimp only at *; omega))
          have hAm : (g.setHigh i k (g.high i k - 1)).more A = g.have_ A - sumN g.m (fun c => min (g.left c) (g.free A c - (if c = k then pick1 (A i) 1 else 0))) := by
            unfold more
            rw [sumN_congr (f := fun c => min ((g.setHigh i k (g.high i k - 1)).left c) ((g.setHigh i k (g.high i k - 1)).free A c)) (g := fun c => min (g.left c) (g.free A c - (if c = k then pick1 (A i) 1 else 0))) (fun c hc' => by rw [fH c hc']; rfl)]
            rfl
          rw [hAm, sumN_at (g := fun c => min (g.left c) (g.free A c)) hk (fun c _ hne => by rw [if_neg hne, Int.sub_zero])] at hA
          simp only [if_true] at hA
          unfold more at mA
          have hAi : A i = true := by
            cases e : A i with
            | true => rfl
            | false =>
              simp only [e, pick1, Bool.false_eq_true, if_false] at hA
              (first | omega | (dsimp only at *; omega))
          simp only [hAi, pick1, if_true] at hA
          have tightA : g.more A = 0 ∧ g.free A k ≤ g.left k := by
            unfold more
            (first | omega | (dsimp only at *; omega))
          -- what raising the low end does
          have lL : ∀ c, c < g.m → (g.setLow i k (g.low i k + 1)).left c = g.left c - (if c = k then 1 else 0) := by
            intro c _
            unfold left
            by_cases e : c = k
            · subst e
              rw [if_pos rfl]
              have := sumN_at (n := g.n) (f := fun a => (g.setLow i c (g.low i c + 1)).low a c) (g := fun a => g.low a c) hi (fun a _ ha => by simp [setLow, ha])
              show g.dn c - sumN g.n (fun a => (g.setLow i c (g.low i c + 1)).low a c) = _
              rw [this]
              simp only [setLow, and_self, if_true]
              (first | omega | (dsimp only at *; omega))
            · rw [if_neg e]
              show g.dn c - sumN g.n (fun a => (g.setLow i k (g.low i k + 1)).low a c) = _
              rw [sumN_congr (g := fun a => g.low a c) (fun a _ => by simp [setLow, e])]
              (first | omega | (dsimp only at *; omega))
          have fL : ∀ c, c < g.m → (g.setLow i k (g.low i k + 1)).free B c = g.free B c - (if c = k then pick1 (B i) 1 else 0) := by
            intro c _
            unfold free
            by_cases e : c = k
            · subst e
              rw [if_pos rfl]
              have := sumN_at (n := g.n) (f := fun a => pick1 (B a) (g.high a c - (g.setLow i c (g.low i c + 1)).low a c)) (g := fun a => pick1 (B a) (g.high a c - g.low a c)) hi (fun a _ ha => by simp [setLow, ha])
              show sumN g.n (fun a => pick1 (B a) (g.high a c - (g.setLow i c (g.low i c + 1)).low a c)) = _
              rw [this]
              simp only [setLow, and_self, if_true]
              unfold pick1
              split <;> (first | omega | (dsimp only at *; omega))
            · rw [if_neg e]
              show sumN g.n (fun a => pick1 (B a) (g.high a c - (g.setLow i k (g.low i k + 1)).low a c)) = _
              rw [sumN_congr (g := fun a => pick1 (B a) (g.high a c - g.low a c)) (fun a _ => by simp [setLow, e])]
              (first | omega | (dsimp only at *; omega))
          have hL : (g.setLow i k (g.low i k + 1)).have_ B = g.have_ B - pick1 (B i) 1 := by
            unfold have_
            have inner : sumN g.m ((g.setLow i k (g.low i k + 1)).low i) = sumN g.m (g.low i) + 1 := by
              rw [sumN_at (g := g.low i) hk (fun b _ hb => by simp [setLow, hb])]
              simp only [setLow, and_self, if_true]
              (first | omega | (dsimp only at *; omega))
            have := sumN_at (n := g.n) (f := fun a => pick1 (B a) (g.ac a - sumN g.m ((g.setLow i k (g.low i k + 1)).low a))) (g := fun a => pick1 (B a) (g.ac a - sumN g.m (g.low a))) hi (fun a _ ha => by
              rw [sumN_congr (f := (g.setLow i k (g.low i k + 1)).low a) (g := g.low a) (fun b _ => by simp [setLow, ha])])
            show sumN g.n (fun a => pick1 (B a) (g.ac a - sumN g.m ((g.setLow i k (g.low i k + 1)).low a))) = _
            rw [this]
            simp only [inner]
            unfold pick1
            split <;> (first | omega | (dsimp only at *; omega))
          have hBm : (g.setLow i k (g.low i k + 1)).more B = (g.have_ B - pick1 (B i) 1) - sumN g.m (fun c => min (g.left c - (if c = k then 1 else 0)) (g.free B c - (if c = k then pick1 (B i) 1 else 0))) := by
            unfold more
            rw [hL]
            have : sumN (g.setLow i k (g.low i k + 1)).m (fun c => min ((g.setLow i k (g.low i k + 1)).left c) ((g.setLow i k (g.low i k + 1)).free B c)) = sumN g.m (fun c => min (g.left c - (if c = k then 1 else 0)) (g.free B c - (if c = k then pick1 (B i) 1 else 0))) :=
              sumN_congr (fun c hc' => by rw [fL c hc', lL c hc'])
            rw [this]
          rw [hBm, sumN_at (g := fun c => min (g.left c) (g.free B c)) hk (fun c _ hne => by rw [if_neg hne, if_neg hne, Int.sub_zero, Int.sub_zero])] at hB
          simp only [if_true] at hB
          unfold more at mB
          have hBi : B i = false := by
            cases e : B i with
            | false => rfl
            | true =>
              simp only [e, pick1, if_true] at hB
              (first | omega | (dsimp only at *; omega))
          simp only [hBi, pick1, Bool.false_eq_true, if_false] at hB
          have tightB : g.more B = 0 ∧ g.left k ≤ g.free B k := by
            unfold more
            (first | omega | (dsimp only at *; omega))
          have u := uncross hok A B hi hk hAi hBi hlt tightA.2 tightB.2
          have u1 := hc.2 (fun j => A j || B j)
          have u2 := hc.2 (fun j => A j && B j)
          (first | omega | (dsimp only at *; omega))
theorem cond_iff {g : GRID} (hok : g.Ok) : g.Cond ↔ ∃ x, g.Fill x := by
  constructor
  · intro h
    obtain ⟨s, hs⟩ := Int.eq_ofNat_of_zero_le (sumN_nonneg (n := g.n) (f := fun i => sumN g.m (fun k => g.high i k - g.low i k)) (fun i hi => sumN_nonneg fun k hk => by have := hok i k hi hk; (first | omega | (dsimp only at *; omega))))
    exact fill_of_cond s g hok hs h
  · rintro ⟨x, hx⟩
    exact cond_of_fill hx
end GRID
end Go.Proofs.Ytlhpejabdmejbaa.Base
