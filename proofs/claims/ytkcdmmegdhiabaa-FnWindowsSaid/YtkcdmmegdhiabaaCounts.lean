/- Plain lemmas: counts of a list's numbers. No condition. -/
import Derived.Test.YtkcdmmegdhiabaaLists
namespace Go.Proofs.Ytkcdmmegdhiabaa.Base
open Go.RowKit Go.Proofs.YtkcdmmegdhiabaaW.PrintWords Go.Proofs.YtkcdmmegdhiabaaW.PrintLast Go.Proofs.YtkcdmmegdhiabaaW.PrintMore
set_option linter.unusedVariables false
set_option linter.unusedSimpArgs false
theorem rd_nat (xs : List Int) (i : Nat) : rd xs (i : Int) = xs.getD i 0 := by
  unfold rd; simp
theorem getD_setE {xs : List Int} {i : Nat} (v : Int) (h : i < xs.length) : (xs.set i v).getD i 0 = v := by
  simp [List.getD_eq_getElem?_getD, h]
theorem getD_setN {xs : List Int} {i j : Nat} (v : Int) (h : i ≠ j) : (xs.set i v).getD j 0 = xs.getD j 0 := by
  simp [List.getD_eq_getElem?_getD, List.getElem?_set_ne h]
theorem sum_zero : ∀ (c : List Int), (∀ x ∈ c, 0 ≤ x) → c.sum = 0 → ∀ i, c.getD i 0 = 0 := by
  intro c
  induction c with
  | nil => intro _ _ i; simp
  | cons x c ih =>
    intro h hs i
    have hx := h x List.mem_cons_self
    have hc : 0 ≤ c.sum := by
      have key : ∀ (l : List Int), (∀ x ∈ l, 0 ≤ x) → 0 ≤ l.sum := by
        intro l
        induction l with
        | nil => intro _; simp
        | cons y l ih2 =>
          intro hl
          rw [List.sum_cons]
          have := hl y List.mem_cons_self
          have := ih2 (fun z hz => hl z (List.mem_cons_of_mem _ hz))
          omega
      exact key c (fun y hy => h y (List.mem_cons_of_mem _ hy))
    rw [List.sum_cons] at hs
    cases i with
    | zero => simp; omega
    | succ i =>
      have := ih (fun y hy => h y (List.mem_cons_of_mem _ hy)) (by omega) i
      simpa using this
theorem sum_pos_ex (c : List Int) (h : ∀ x ∈ c, 0 ≤ x) (hs : 0 < c.sum) : ∃ i, i < c.length ∧ c.getD i 0 ≠ 0 := by
  by_cases hex : ∃ i, i < c.length ∧ c.getD i 0 ≠ 0
  · exact hex
  · exfalso
    have hz : ∀ (l : List Int), (∀ i, i < l.length → l.getD i 0 = 0) → l.sum = 0 := by
      intro l
      induction l with
      | nil => intro _; rfl
      | cons y l ih =>
        intro hl
        have h0 := hl 0 (by simp)
        have := ih (fun i hi => by simpa using hl (i + 1) (by simp; omega))
        rw [List.sum_cons, this]
        simpa using h0
    have := hz c (fun i hi => by
      by_cases e : c.getD i 0 = 0
      · exact e
      · exact absurd ⟨i, hi, e⟩ hex)
    omega
theorem list_eq_ofC {l m : List Int} (h : l.length = m.length) (he : ∀ i, i < m.length → l.getD i 0 = m.getD i 0) : l = m := by
  apply List.ext_getElem h
  intro i h1 h2
  have := he i h2
  simpa [List.getD_eq_getElem?_getD, h1, h2] using this
/-- How often i stands in a list. -/
def cntOf (i : Nat) : List Int → Int
  | [] => 0
  | p :: l => (if p = (i : Int) then 1 else 0) + cntOf i l
theorem cntOf_nonneg (i : Nat) : ∀ l, 0 ≤ cntOf i l
  | [] => Int.le_refl _
  | p :: l => by
    have := cntOf_nonneg i l
    unfold cntOf
    split <;> omega
theorem cntOf_le (i : Nat) : ∀ l, cntOf i l ≤ l.length
  | [] => Int.le_refl _
  | p :: l => by
    have := cntOf_le i l
    unfold cntOf
    simp only [List.length_cons]
    split <;> omega
theorem cntOf_append (i : Nat) : ∀ l m, cntOf i (l ++ m) = cntOf i l + cntOf i m
  | [], m => by simp [cntOf]
  | p :: l, m => by
    simp only [List.cons_append, cntOf, cntOf_append i l m]
    omega
theorem bump_getD {b : List Int} {p : Int} (h0 : 0 ≤ p) (h1 : p < b.length) (hb : ∀ i, -1000000000 ≤ b.getD i 0 ∧ b.getD i 0 ≤ 1000000000) (i : Nat) : (bump b p).getD i 0 = b.getD i 0 + (if p = (i : Int) then 1 else 0) := by
  obtain ⟨q, rfl⟩ := Int.eq_ofNat_of_zero_le h0
  have hq := hb q
  unfold bump
  rw [rd_nat, w64 (by omega) (by omega), Int.toNat_natCast]
  by_cases e : q = i
  · subst e
    rw [getD_setE _ (by omega), if_pos rfl]
  · rw [getD_setN _ e, if_neg (by omega)]
    omega
theorem tally_getD : ∀ (L b : List Int) (M : Int), (∀ p ∈ L, 0 ≤ p ∧ p < b.length) → (∀ i, 0 ≤ b.getD i 0 ∧ b.getD i 0 ≤ M) → M + L.length ≤ 1000000000 → ∀ i, (tally b L).getD i 0 = b.getD i 0 + cntOf i L
  | [], b, _, _, _, _, i => by simp [tally, cntOf]
  | p :: L, b, M, hL, hb, hM, i => by
    have hp := hL p List.mem_cons_self
    simp only [List.length_cons] at hM
    have hg := fun j => bump_getD (b := b) hp.1 hp.2 (fun i => by have := hb i; omega) j
    rw [tally_cons, tally_getD L (bump b p) (M + 1) (fun q hq => by rw [bump_length]; exact hL q (List.mem_cons_of_mem _ hq)) (fun j => by rw [hg j]; have := hb j; split <;> omega) (by omega) i, hg i]
    simp only [cntOf]
    omega
theorem zeros_getD (n i : Nat) : (List.replicate n (0 : Int)).getD i 0 = 0 := by
  rw [List.getD_eq_getElem?_getD, List.getElem?_replicate]
  split <;> rfl
end Go.Proofs.Ytkcdmmegdhiabaa.Base
