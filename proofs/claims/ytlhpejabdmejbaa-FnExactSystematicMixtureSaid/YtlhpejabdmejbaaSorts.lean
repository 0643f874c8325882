/- Plain lemmas: a sorted row, without its repeats. No condition. -/
import Derived.Test.YtlhpejabdmejbaaLists
import Derived.Lib.SlicesCompact
namespace Go.Proofs.Ytlhpejabdmejbaa.Base
open Go.RowKit Go.Proofs.YtlhpejabdmejbaaW.PrintWords Go.Proofs.YtlhpejabdmejbaaW.PrintLast Go.Proofs.YtlhpejabdmejbaaW.PrintMore
set_option linter.unusedVariables false
set_option linter.unusedSimpArgs false
theorem bang_getD (l : List Int) (j : Nat) : l.toArray[j]! = l.getD j 0 := by
  rw [List.getElem!_toArray, List.getD_eq_getElem?_getD]
  by_cases h : j < l.length
  · rw [List.getElem!_eq_getElem?_getD]; rfl
  · rw [List.getElem!_eq_getElem?_getD]; rfl
theorem cmpl_def (l : List Int) : Go.Lib.compact l = ((List.range l.length).filter fun j => decide (j = 0 ∨ l.getD j 0 ≠ l.getD (j - 1) 0)).map fun j => l.getD j 0 := by
  unfold Go.Lib.compact Go.Lib.compactUpTo
  have e : (l.toArray[·]!) = fun j => l.getD j 0 := funext fun j => bang_getD l j
  rw [e]
  congr 1
  apply List.filter_congr
  intro j _
  unfold Go.Lib.keeps
  rw [bang_getD, bang_getD]
-- :kit
theorem mem_cmpl (l : List Int) (x : Int) : x ∈ Go.Lib.compact l ↔ x ∈ l := by
  rw [cmpl_def]
  simp only [List.mem_map, List.mem_filter, List.mem_range, decide_eq_true_eq]
  constructor
  · rintro ⟨j, ⟨hj, _⟩, rfl⟩
    exact getD_mem hj
  · intro h
    obtain ⟨i, hi, e⟩ := mem_getD h
    induction i with
    | zero => exact ⟨0, ⟨hi, .inl rfl⟩, e⟩
    | succ i ih =>
      by_cases c : l.getD (i + 1) 0 = l.getD i 0
      · exact ih (by omega) (by rw [← c]; exact e)
      · exact ⟨i + 1, ⟨hi, .inr c⟩, e⟩
theorem le_get {s : List Int} (h : s.Pairwise (· ≤ ·)) {i j : Nat} (hij : i ≤ j) (hj : j < s.length) : s.getD i 0 ≤ s.getD j 0 := by
  rcases Nat.lt_or_eq_of_le hij with c | c
  · have := List.pairwise_iff_getElem.1 h i j (by omega) hj c
    simpa [List.getD_eq_getElem?_getD, hj, show i < s.length by omega] using this
  · subst c; exact Int.le_refl _
theorem cmpl_rise {l : List Int} (h : l.Pairwise (· ≤ ·)) : (Go.Lib.compact l).Pairwise (· < ·) := by
  rw [cmpl_def, List.pairwise_map]
  refine (List.pairwise_lt_range.filter _).imp_of_mem ?_
  intro i j hi hj hij
  simp only [List.mem_filter, List.mem_range, decide_eq_true_eq] at hj
  have h1 := le_get h (show i ≤ j - 1 by omega) (by omega)
  have h2 := le_get h (show j - 1 ≤ j by omega) hj.1
  rcases hj.2 with e | e
  · omega
  · omega
theorem cmpl_length (l : List Int) : (Go.Lib.compact l).length ≤ l.length := by
  rw [cmpl_def, List.length_map]
  exact Nat.le_trans (List.length_filter_le ..) (by simp)
def SORT (l : List Int) : List Int := l.mergeSort fun x y => decide (x ≤ y)
theorem sort_mem {l : List Int} {x : Int} : x ∈ SORT l ↔ x ∈ l := (List.mergeSort_perm l _).mem_iff
theorem sort_length (l : List Int) : (SORT l).length = l.length := List.length_mergeSort ..
theorem sort_le (l : List Int) : (SORT l).Pairwise (· ≤ ·) := by
  have := List.pairwise_mergeSort (le := fun x y : Int => decide (x ≤ y)) (fun a b c => by simp; omega) (fun a b => by simp; omega) l
  exact this.imp fun h => by simpa using h
theorem sort_nodup {l : List Int} : (SORT l).Nodup ↔ l.Nodup := (List.mergeSort_perm l _).nodup_iff
theorem sort_sum (l : List Int) : (SORT l).sum = l.sum := by
  have := (List.mergeSort_perm l fun x y => decide (x ≤ y))
  have key : ∀ {a b : List Int}, a.Perm b → a.sum = b.sum := by
    intro a b h
    induction h with
    | nil => rfl
    | cons x _ ih => simp [ih]
    | swap x y l => simp; omega
    | trans _ _ ih1 ih2 => exact ih1.trans ih2
  exact key this
theorem sort_lt {l : List Int} (h : l.Nodup) : (SORT l).Pairwise (· < ·) := by
  have h1 := sort_le l
  have h2 := sort_nodup.2 h
  exact (h1.and h2).imp fun h => by have := h.1; have := h.2; omega
end Go.Proofs.Ytlhpejabdmejbaa.Base
