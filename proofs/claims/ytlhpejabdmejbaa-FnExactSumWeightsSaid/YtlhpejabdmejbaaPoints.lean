/- Plain lemmas: a sorted row, without its repeats; the gaps between points on a circle. No condition. -/
import Derived.Test.YtlhpejabdmejbaaGap
import Derived.Lib.SlicesCompact
namespace Go.Proofs.Ytlhpejabdmejbaa.Base
open Go.RowKit Go.Proofs.YtlhpejabdmejbaaW.PrintWords Go.Proofs.YtlhpejabdmejbaaW.PrintLast Go.Proofs.YtlhpejabdmejbaaW.PrintMore
set_option linter.unusedVariables false
set_option linter.unusedSimpArgs false
-- kit:
theorem bang_getD (l : List Int) (j : Nat) : l.toArray[j]! = l.getD j 0 := by
  rw [List.getElem!_toArray, List.getD_eq_getElem?_getD]
  by_cases h : j < l.length
  · rw [List.getElem!_eq_getElem?_getD]; rfl
  · rw [List.getElem!_eq_getElem?_getD]; rfl
theorem cmpl_def (l : List Int) : Go.Lib.compact l = ((List.range l.length).filter fun j => decide (j = 0 ∨ l.getD j 0 ≠ l.getD (j - 1) 0)).map fun j => l.getD j 0 := by
  unfold Go.Lib.compact Go.Lib.compactUpTo
  have e : (l.toArray[·]!) = fun j => l.getD j 0 := funext fun j => bang_getD l j
  rw [e]
  congr 1
  apply List.filter_congr
  intro j _
  unfold Go.Lib.keeps
  rw [bang_getD, bang_getD]
-- :kit
theorem mem_cmpl (l : List Int) (x : Int) : x ∈ Go.Lib.compact l ↔ x ∈ l := by
  rw [cmpl_def]
  simp only [List.mem_map, List.mem_filter, List.mem_range, decide_eq_true_eq]
  constructor
  · rintro ⟨j, ⟨hj, _⟩, rfl⟩
    exact getD_mem hj
  · intro h
    obtain ⟨i, hi, e⟩ := mem_getD h
    induction i with
    | zero => exact ⟨0, ⟨hi, .inl rfl⟩, e⟩
    | succ i ih =>
      by_cases c : l.getD (i + 1) 0 = l.getD i 0
      · exact ih (by omega) (by rw [← c]; exact e)
      · exact ⟨i + 1, ⟨hi, .inr c⟩, e⟩
theorem le_get {s : List Int} (h : s.Pairwise (· ≤ ·)) {i j : Nat} (hij : i ≤ j) (hj : j < s.length) : s.getD i 0 ≤ s.getD j 0 := by
  rcases Nat.lt_or_eq_of_le hij with c | c
  · have := List.pairwise_iff_getElem.1 h i j (by omega) hj c
    simpa [List.getD_eq_getElem?_getD, hj, show i < s.length by omega] using this
  · subst c; exact Int.le_refl _
theorem cmpl_rise {l : List Int} (h : l.Pairwise (· ≤ ·)) : (Go.Lib.compact l).Pairwise (· < ·) := by
  rw [cmpl_def, List.pairwise_map]
  refine (List.pairwise_lt_range.filter _).imp_of_mem ?_
  intro i j hi hj hij
  simp only [List.mem_filter, List.mem_range, decide_eq_true_eq] at hj
  have h1 := le_get h (show i ≤ j - 1 by omega) (by omega)
  have h2 := le_get h (show j - 1 ≤ j by omega) hj.1
  rcases hj.2 with e | e
  · omega
  · omega
theorem cmpl_length (l : List Int) : (Go.Lib.compact l).length ≤ l.length := by
  rw [cmpl_def, List.length_map]
  exact Nat.le_trans (List.length_filter_le ..) (by simp)
def SORT (l : List Int) : List Int := l.mergeSort fun x y => decide (x ≤ y)
theorem sort_mem {l : List Int} {x : Int} : x ∈ SORT l ↔ x ∈ l := (List.mergeSort_perm l _).mem_iff
theorem sort_length (l : List Int) : (SORT l).length = l.length := List.length_mergeSort ..
theorem sort_le (l : List Int) : (SORT l).Pairwise (· ≤ ·) := by
  have := List.pairwise_mergeSort (le := fun x y : Int => decide (x ≤ y)) (fun a b c => by simp; omega) (fun a b => by simp; omega) l
  exact this.imp fun h => by simpa using h
theorem sort_nodup {l : List Int} : (SORT l).Nodup ↔ l.Nodup := (List.mergeSort_perm l _).nodup_iff
theorem sort_sum (l : List Int) : (SORT l).sum = l.sum := by
  have := (List.mergeSort_perm l fun x y => decide (x ≤ y))
  have key : ∀ {a b : List Int}, a.Perm b → a.sum = b.sum := by
    intro a b h
    induction h with
    | nil => rfl
    | cons x _ ih => simp [ih]
    | swap x y l => simp; omega
    | trans _ _ ih1 ih2 => exact ih1.trans ih2
  exact key this
theorem sort_lt {l : List Int} (h : l.Nodup) : (SORT l).Pairwise (· < ·) := by
  have h1 := sort_le l
  have h2 := sort_nodup.2 h
  exact (h1.and h2).imp fun h => by have := h.1; have := h.2; omega
/-- The differences on the circle, in order round it. -/
def DS (a D : Int) (n : Nat) : List Int := DIF (SORT (PTS a D n) ++ [D])
theorem ds_length (a D : Int) (n : Nat) : (DS a D n).length = n := by
  unfold DS; rw [dif_length, List.length_append, sort_length]; simp [PTS]
theorem pts_rng {a D : Int} {n : Nat} (hD : 0 < D) {x : Int} (h : x ∈ PTS a D n) : 0 ≤ x ∧ x < D := by
  obtain ⟨i, _, rfl⟩ := mem_pts.1 h
  exact pos_rng a hD i
theorem pts_length (a D : Int) (n : Nat) : (PTS a D n).length = n := by simp [PTS]
theorem first_zero {a D : Int} {n : Nat} (hD : 0 < D) (hn : 1 ≤ n) : (SORT (PTS a D n)).getD 0 0 = 0 := by
  have h0 : (0 : Int) ∈ SORT (PTS a D n) := sort_mem.2 (mem_pts.2 ⟨0, hn, pos_zero a D⟩)
  have hl : 0 < (SORT (PTS a D n)).length := by rw [sort_length, pts_length]; exact hn
  obtain ⟨i, hi, e⟩ := mem_getD h0
  have h1 := le_get (sort_le _) (Nat.zero_le i) hi
  have h2 := pts_rng hD (sort_mem.1 (getD_mem (d := 0) hl))
  omega
theorem ds_gap {a D : Int} {n : Nat} (hD : 0 < D) (h : (PTS a D n).Nodup) (g : Int) : g ∈ DS a D n ↔ GAP (PTS a D n) D g := by
  unfold DS
  rw [dif_gap (sort_lt h) (fun x hx => (pts_rng hD (sort_mem.1 hx)).2)]
  unfold GAP
  simp only [sort_mem]
theorem gap_pos {S : List Int} {D g : Int} (h : GAP S D g) : 0 < g := by
  obtain ⟨u, v, _, _, h1, h2, _⟩ := h
  omega
theorem dif_rng {a D : Int} {n : Nat} (hD : 0 < D) {g : Int} (h : g ∈ DS a D n) : 0 ≤ g ∧ g ≤ D := by
  unfold DS DIF at h
  simp only [List.mem_map, List.mem_range, List.length_append, List.length_cons, List.length_nil] at h
  obtain ⟨i, hi, rfl⟩ := h
  have hi' : i < (SORT (PTS a D n)).length := by omega
  have r1 := pts_rng hD (sort_mem.1 (getD_mem (d := 0) hi'))
  rw [getD_snoc hi']
  by_cases c : i + 1 < (SORT (PTS a D n)).length
  · rw [getD_snoc c]
    have r2 := pts_rng hD (sort_mem.1 (getD_mem (d := 0) c))
    have := le_get (sort_le (PTS a D n)) (show i ≤ i + 1 by omega) c
    omega
  · rw [show i + 1 = (SORT (PTS a D n)).length by omega, getD_snoc_last]
    omega
theorem ds_zero {a D : Int} {n : Nat} (hD : 0 < D) (hn : 1 ≤ n) : (SORT (DS a D n)).getD 0 0 = 0 ↔ ¬ (PTS a D n).Nodup := by
  have hl : 0 < (SORT (DS a D n)).length := by rw [sort_length, ds_length]; exact hn
  constructor
  · intro e h
    have := sort_mem.1 (getD_mem (d := 0) hl)
    rw [e] at this
    have := gap_pos ((ds_gap hD h _).1 this)
    omega
  · intro h
    have hz : (0 : Int) ∈ DS a D n := by
      apply Classical.byContradiction
      intro hno
      apply h
      rw [← sort_nodup, List.Nodup]
      refine List.pairwise_iff_getElem.2 fun i j hi hj hij e => hno ?_
      have ei : (SORT (PTS a D n)).getD i 0 = (SORT (PTS a D n))[i] := by simp [List.getD_eq_getElem?_getD, hi]
      have ej : (SORT (PTS a D n)).getD j 0 = (SORT (PTS a D n))[j] := by simp [List.getD_eq_getElem?_getD, hj]
      have h1 := le_get (sort_le (PTS a D n)) (show i ≤ i + 1 by omega) (by omega)
      have h2 := le_get (sort_le (PTS a D n)) (show i + 1 ≤ j by omega) hj
      unfold DS DIF
      simp only [List.mem_map, List.mem_range, List.length_append, List.length_cons, List.length_nil]
      refine ⟨i, by omega, ?_⟩
      rw [getD_snoc hi, getD_snoc (by omega)]
      omega
    obtain ⟨i, hi, e⟩ := mem_getD (sort_mem.2 hz)
    have h1 := le_get (sort_le (DS a D n)) (Nat.zero_le i) hi
    have h2 := dif_rng hD (sort_mem.1 (getD_mem (d := 0) hl))
    omega
/-- The gaps' lengths, rising. -/
def GS (a D : Int) (n : Nat) : List Int := Go.Lib.compact (SORT (DS a D n))
theorem gs_rise (a D : Int) (n : Nat) : (GS a D n).Pairwise (· < ·) := cmpl_rise (sort_le _)
theorem gs_length (a D : Int) (n : Nat) : (GS a D n).length ≤ n := by
  have := cmpl_length (SORT (DS a D n))
  rw [sort_length, ds_length] at this
  exact this
theorem gs_mem {a D : Int} {n : Nat} {g : Int} : g ∈ GS a D n ↔ g ∈ DS a D n := by unfold GS; rw [mem_cmpl, sort_mem]
def okG (a D n : Int) : Bool := decide (1 ≤ D ∧ D ≤ 1000) && decide (0 ≤ a ∧ a ≤ D - 1) && decide (1 ≤ n ∧ n ≤ D)
def GAPS (a D n : Int) : List Int × Bool := if okG a D n then (if (PTS a D n.toNat).Nodup then (GS a D n.toNat, true) else ([], false)) else ([], false)
end Go.Proofs.Ytlhpejabdmejbaa.Base
