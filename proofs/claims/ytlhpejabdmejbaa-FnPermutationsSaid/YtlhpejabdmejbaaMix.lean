/- Plain lemmas: weighted sums down a column, and values over a denominator. No condition. -/
import Derived.Test.YtlhpejabdmejbaaBase
import Derived.Test.YtlhpejabdmejbaaLists
import Derived.Test.YtlhpejabdmejbaaPsum
namespace Go.Proofs.Ytlhpejabdmejbaa.Base
open Go.RowKit Go.Proofs.YtlhpejabdmejbaaW.PrintWords Go.Proofs.YtlhpejabdmejbaaW.PrintLast Go.Proofs.YtlhpejabdmejbaaW.PrintMore
set_option linter.unusedVariables false
set_option linter.unusedSimpArgs false
theorem mrd {xs : List Int} {i : Nat} : rd xs (i : Int) = xs.getD i 0 := by
  unfold rd; simp
def mcol (W : List Int) (L : List (List Int)) (i k : Nat) : Int := ((List.range i).map fun q => W.getD q 0 * (L.getD q []).getD k 0).sum
theorem mcol_succ (W : List Int) (L : List (List Int)) (i k : Nat) : mcol W L (i + 1) k = mcol W L i k + W.getD i 0 * (L.getD i []).getD k 0 := by
  unfold mcol
  rw [List.range_succ, List.map_append, List.sum_append]
  simp
theorem mprod {w x B : Int} (hw : 1 ≤ w) (h0 : -B ≤ x) (h1 : x ≤ B) : -(B * w) ≤ w * x ∧ w * x ≤ B * w := by
  have a := Int.mul_le_mul_of_nonneg_left h0 (show 0 ≤ w by omega)
  have b := Int.mul_le_mul_of_nonneg_left h1 (show 0 ≤ w by omega)
  rw [Int.mul_neg] at a
  rw [Int.mul_comm B w]
  exact ⟨a, b⟩
/-- What the sums of a valid mixture need. -/
def MB (W : List Int) (L : List (List Int)) : Prop := W.length = L.length ∧ (∀ w ∈ W, 1 ≤ w) ∧ (∀ i, i ≤ W.length → psum W i ≤ 1000000) ∧ ∀ i, i < L.length → ∀ x ∈ L.getD i [], -1000000 ≤ x ∧ x ≤ 1000000
theorem mb_x {W : List Int} {L : List (List Int)} (h : MB W L) (i k : Nat) (hi : i < L.length) : -1000000 ≤ (L.getD i []).getD k 0 ∧ (L.getD i []).getD k 0 ≤ 1000000 := by
  by_cases c : k < (L.getD i []).length
  · exact h.2.2.2 i hi _ (getD_mem c)
  · have e : (L.getD i []).getD k 0 = 0 := by
      unfold List.getD
      rw [List.getElem?_eq_none (show (L[i]?.getD []).length ≤ k from Nat.not_lt.1 c)]
      rfl
    omega
theorem mcol_bnd {W : List Int} {L : List (List Int)} (h : MB W L) : ∀ (i : Nat), i ≤ L.length → ∀ k, -(1000000 * psum W i) ≤ mcol W L i k ∧ mcol W L i k ≤ 1000000 * psum W i
  | 0, _, k => by rw [psum_zero]; simp [mcol]
  | i + 1, hi, k => by
    have ih := mcol_bnd h i (by omega) k
    have hw := h.1
    have hp := mprod (h.2.1 (W.getD i 0) (getD_mem (by omega))) (mb_x h i k (by omega)).1 (mb_x h i k (by omega)).2
    rw [mcol_succ, psum_succ W i (by omega)]
    rw [Int.mul_add]
    omega
theorem mb_wrap {W : List Int} {L : List (List Int)} (h : MB W L) (i k : Nat) (hi : i < L.length) : wrap64 (mcol W L i k + wrap64 (W.getD i 0 * (L.getD i []).getD k 0)) = mcol W L (i + 1) k := by
  have hw := h.1
  have hp := mprod (h.2.1 (W.getD i 0) (getD_mem (by omega))) (mb_x h i k (by omega)).1 (mb_x h i k (by omega)).2
  have h1 := mcol_bnd h i (by omega) k
  have h2 := h.2.2.1 i (by omega)
  have h3 := h.2.2.1 (i + 1) (by omega)
  have h4 := psum_mono W h.2.1 i 0 (by omega)
  rw [Nat.zero_add, psum_zero] at h4
  have h5 := psum_succ W i (by omega)
  rw [w64 (show (-9223372036854775808) ≤ W.getD i 0 * (L.getD i []).getD k 0 by omega) (by omega), ← mcol_succ]
  have h6 := mcol_bnd h (i + 1) (by omega) k
  exact w64 (by omega) (by omega)
/-- All the sums. -/
def mtot (W : List Int) (L : List (List Int)) : List Int := (List.range (L.headD []).length).map (mcol W L L.length)
theorem mtot_length (W : List Int) (L : List (List Int)) : (mtot W L).length = (L.headD []).length := by simp [mtot]
theorem mcol_first (W : List Int) (L : List (List Int)) (n : Nat) : List.replicate n (0 : Int) = stair (mcol W L) n 0 0 := by
  rw [stair_zero]
  apply List.ext_getElem
  · simp
  · intro i h1 h2; simp [mcol]
theorem mcol_last (W : List Int) (L : List (List Int)) : stair (mcol W L) (L.headD []).length L.length 0 = mtot W L := stair_zero _ _ _
theorem mtot_bnd {W : List Int} {L : List (List Int)} (h : MB W L) : ∀ x ∈ mtot W L, -1000000000000 ≤ x ∧ x ≤ 1000000000000 := by
  intro x hx
  unfold mtot at hx
  obtain ⟨k, _, rfl⟩ := List.mem_map.1 hx
  have h1 := mcol_bnd h L.length (Nat.le_refl _) k
  have h2 := h.2.2.1 L.length (by rw [h.1]; exact Nat.le_refl _)
  omega
/-- Values over a denominator that are in range. -/
def VV (den : Int) (vs : List Int) : Bool := decide (1 ≤ den ∧ den ≤ 1000) && (decide (vs.length ≤ 40) && vs.all fun x => decide (-1000000 ≤ x ∧ x ≤ 1000000))
def gfold (g : Int) (l : List Int) : Int := l.foldl (fun g x => (Int.gcd g x : Int)) g
theorem gfold_cons (g x : Int) (l : List Int) : gfold g (x :: l) = gfold (Int.gcd g x : Int) l := rfl
theorem gcd_rng {g : Int} (x : Int) (h0 : 0 < g) {m : Int} (h1 : g ≤ m) : 0 < (Int.gcd g x : Int) ∧ (Int.gcd g x : Int) ≤ m := by
  have a := Int.gcd_pos_of_ne_zero_left x (show g ≠ 0 by omega)
  have b := Int.le_of_dvd h0 (Int.gcd_dvd_left g x)
  omega
theorem gfold_rng {m : Int} : ∀ (l : List Int) (g : Int), 0 < g → g ≤ m → 0 < gfold g l ∧ gfold g l ≤ m
  | [], g, h0, h1 => ⟨h0, h1⟩
  | x :: l, g, h0, h1 => by
    have := gcd_rng x h0 h1
    exact gfold_rng l _ this.1 this.2
/-- What means are, of the sums `xs` and the total `t`, once the divisor is `g`. -/
def mnum (g : Int) (xs : List Int) : List Int := xs.map fun x => wrap64 (Int.tdiv x g)
def mres (t : Int) (xs : List Int) (g : Int) : Int × List Int × Bool := if VV (wrap64 (Int.tdiv t g)) (mnum g xs) = true then (wrap64 (Int.tdiv t g), mnum g xs, true) else (0, [], false)
theorem mres_length (t : Int) (xs : List Int) (g : Int) : (mres t xs g).2.1.length ≤ xs.length := by
  unfold mres
  split <;> simp [mnum]
theorem mnum_succ (g : Int) (xs : List Int) (i : Nat) (h : i < xs.length) : mnum g (xs.take i) ++ [wrap64 (Int.tdiv (xs.getD i 0) g)] = mnum g (xs.take (i + 1)) := by
  unfold mnum
  rw [List.take_succ_eq_append_getElem h, List.map_append]
  simp [List.getD_eq_getElem?_getD, h]
end Go.Proofs.Ytlhpejabdmejbaa.Base
