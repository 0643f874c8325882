/- Plain lemmas: the sums of a table. No condition. -/
import Derived.Test.YtdcglkdgepdnpaaLists
namespace Go.Proofs.Ytdcglkdgepdnpaa.Base
open Go.RowKit Go.Proofs.YtdcglkdgepdnpaaW.PrintWords Go.Proofs.YtdcglkdgepdnpaaW.PrintLast Go.Proofs.YtdcglkdgepdnpaaW.PrintMore
set_option linter.unusedVariables false
set_option linter.unusedSimpArgs false
theorem row_bnd (T : List (List Int)) (hm : ∀ i, i < T.length → (T.getD i []).length ≤ 5) (hv : ∀ i, i < T.length → ∀ x ∈ T.getD i [], 0 ≤ x ∧ x ≤ 100000) (i : Nat) (hi : i < T.length) : 0 ≤ wsum 0 (T.getD i []) ∧ wsum 0 (T.getD i []) ≤ 500000 := by
  have := wsum_bnd (hv i hi) (by omega) (hm i hi) (by omega)
  omega
theorem rows_bnd (T : List (List Int)) (hm : ∀ i, i < T.length → (T.getD i []).length ≤ 5) (hv : ∀ i, i < T.length → ∀ x ∈ T.getD i [], 0 ≤ x ∧ x ≤ 100000) : ∀ y ∈ T.map (wsum 0), 0 ≤ y ∧ y ≤ 500000 := by
  intro y hy
  obtain ⟨r, hr, rfl⟩ := List.mem_map.1 hy
  obtain ⟨i, hi, rfl⟩ := List.getElem_of_mem hr
  have := row_bnd T hm hv i hi
  rwa [show T.getD i [] = T[i] by simp [List.getD_eq_getElem?_getD, hi]] at this
theorem col_bnd (T : List (List Int)) (hn : T.length ≤ 5) (hv : ∀ i, i < T.length → ∀ x ∈ T.getD i [], 0 ≤ x ∧ x ≤ 100000) (k : Nat) (hk : ∀ i, i < T.length → k < (T.getD i []).length) : 0 ≤ wsum 0 (colOf T k) ∧ wsum 0 (colOf T k) ≤ 500000 := by
  have := wsum_bnd (l := colOf T k) (B := 100000) (n := 5) (fun x hx => by
    obtain ⟨r, hr, rfl⟩ := List.mem_map.1 hx
    obtain ⟨i, hi, rfl⟩ := List.getElem_of_mem hr
    have e : T.getD i [] = T[i] := by simp [List.getD_eq_getElem?_getD, hi]
    have h1 := hv i hi
    have h2 := hk i hi
    rw [e] at h1 h2
    exact h1 _ (getD_mem h2)) (by omega) (by simp [colOf]; omega) (by omega)
  omega
end Go.Proofs.Ytdcglkdgepdnpaa.Base
