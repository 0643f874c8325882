/- Plain lemmas: weights gathered by keys. No condition. -/
import Derived.Test.YtlhpejabdmejbaaSorts
namespace Go.Proofs.Ytlhpejabdmejbaa.Base
open Go.RowKit Go.Proofs.YtlhpejabdmejbaaW.PrintWords Go.Proofs.YtlhpejabdmejbaaW.PrintLast Go.Proofs.YtlhpejabdmejbaaW.PrintMore
set_option linter.unusedVariables false
set_option linter.unusedSimpArgs false
/-- The weight at a key after k lists. -/
def wat (W S : List Int) (key : Int) : Nat → Int
  | 0 => 0
  | k + 1 => if S.getD k 0 = key then wrap64 (wat W S key k + W.getD k 0) else wat W S key k
def WAT (W S keys : List Int) (k : Nat) : List Int := keys.map fun key => wat W S key k
theorem wat_length (W S keys : List Int) (k : Nat) : (WAT W S keys k).length = keys.length := by simp [WAT]
theorem wat_get {W S keys : List Int} {k i : Nat} (h : i < keys.length) : (WAT W S keys k).getD i 0 = wat W S (keys.getD i 0) k := by
  unfold WAT; rw [getD_map _ 0 _ h]
theorem wat_zero (W S keys : List Int) : WAT W S keys 0 = List.replicate keys.length 0 := by
  apply List.ext_getElem
  · simp [WAT]
  · intro i h1 h2; simp [WAT, wat]
theorem getD_some {l : List Int} {i : Nat} (h : i < l.length) : l.getD i 0 = l[i] := by simp [List.getD_eq_getElem?_getD, h]
theorem wat_step {W S keys : List Int} {k i : Nat} (hr : keys.Pairwise (· < ·)) (hi : i < keys.length) (hk : keys.getD i 0 = S.getD k 0) : (WAT W S keys k).set i (wrap64 (wat W S (keys.getD i 0) k + W.getD k 0)) = WAT W S keys (k + 1) := by
  apply List.ext_getElem
  · simp [WAT]
  · intro j h1 h2
    have hj : j < keys.length := by simpa [WAT] using h2
    rw [List.getElem_set]
    simp only [WAT, List.getElem_map]
    by_cases c : i = j
    · subst c
      rw [if_pos rfl, ← getD_some hi]
      show _ = if S.getD k 0 = keys.getD i 0 then _ else _
      rw [if_pos hk.symm]
    · rw [if_neg c, ← getD_some hj]
      show _ = if S.getD k 0 = keys.getD j 0 then _ else _
      rw [if_neg]
      rw [← hk]
      intro e
      rcases Nat.lt_or_gt_of_ne c with c | c
      · have := pair_get hr c hj; omega
      · have := pair_get hr c hi; omega
/-- Row after row: i keys are done, the next one up to list k. -/
def WSP (W S keys : List Int) (K i k : Nat) : List Int := (List.range keys.length).map fun j => if j < i then wat W S (keys.getD j 0) K else if j = i then wat W S (keys.getD j 0) k else 0
theorem wsp_length (W S keys : List Int) (K i k : Nat) : (WSP W S keys K i k).length = keys.length := by simp [WSP]
theorem wsp_zero (W S keys : List Int) (K : Nat) : WSP W S keys K 0 0 = List.replicate keys.length 0 := by
  apply List.ext_getElem
  · simp [WSP]
  · intro i h1 h2; simp [WSP, wat]
theorem wsp_row (W S keys : List Int) (K i : Nat) : WSP W S keys K i K = WSP W S keys K (i + 1) 0 := by
  unfold WSP
  apply List.map_congr_left
  intro j _
  by_cases c : j < i
  · rw [if_pos c, if_pos (by omega)]
  · rw [if_neg c]
    by_cases c2 : j = i
    · rw [if_pos c2, if_pos (by omega)]
    · rw [if_neg c2, if_neg (by omega)]
      by_cases c3 : j = i + 1
      · rw [if_pos c3]; rfl
      · rw [if_neg c3]
theorem wsp_end (W S keys : List Int) (K : Nat) : WSP W S keys K keys.length 0 = WAT W S keys K := by
  apply List.ext_getElem
  · simp [WSP, WAT]
  · intro j h1 h2
    have hj : j < keys.length := by simpa [WAT] using h2
    simp only [WSP, WAT, List.getElem_map, List.getElem_range, if_pos hj, getD_some hj]
theorem wsp_get {W S keys : List Int} {K i k : Nat} (h : i < keys.length) : (WSP W S keys K i k).getD i 0 = wat W S (keys.getD i 0) k := by
  unfold WSP
  rw [getD_range _ _ h, if_neg (by omega), if_pos rfl]
theorem wsp_set {W S keys : List Int} {K i k : Nat} (hi : i < keys.length) (hk : S.getD k 0 = keys.getD i 0) : (WSP W S keys K i k).set i (wrap64 (wat W S (keys.getD i 0) k + W.getD k 0)) = WSP W S keys K i (k + 1) := by
  apply List.ext_getElem
  · simp [WSP]
  · intro j h1 h2
    have hj : j < keys.length := by simpa [WSP] using h2
    rw [List.getElem_set]
    simp only [WSP, List.getElem_map, List.getElem_range]
    by_cases c : i = j
    · subst c
      rw [if_pos rfl, if_neg (by omega), if_pos rfl]
      show _ = if S.getD k 0 = keys.getD i 0 then _ else _
      rw [if_pos hk]
    · rw [if_neg c]
      by_cases c1 : j < i
      · rw [if_pos c1, if_pos c1]
      · rw [if_neg c1, if_neg c1, if_neg (by omega), if_neg (by omega)]
theorem wsp_same {W S keys : List Int} {K i k : Nat} (hk : ¬ S.getD k 0 = keys.getD i 0) : WSP W S keys K i k = WSP W S keys K i (k + 1) := by
  unfold WSP
  apply List.map_congr_left
  intro j _
  by_cases c : j < i
  · rw [if_pos c, if_pos c]
  · rw [if_neg c, if_neg c]
    by_cases c2 : j = i
    · subst c2
      rw [if_pos rfl, if_pos rfl]
      show _ = if S.getD k 0 = keys.getD j 0 then _ else _
      rw [if_neg hk]
    · rw [if_neg c2, if_neg c2]
def KEYS (ls : List (List Int)) : List Int := Go.Lib.compact (SORT (ls.map (wsum 0)))
theorem keys_rise (ls : List (List Int)) : (KEYS ls).Pairwise (· < ·) := cmpl_rise (sort_le _)
theorem keys_mem {ls : List (List Int)} {x : Int} : x ∈ KEYS ls ↔ x ∈ ls.map (wsum 0) := by unfold KEYS; rw [mem_cmpl, sort_mem]
theorem keys_length (ls : List (List Int)) : (KEYS ls).length ≤ ls.length := by
  have := cmpl_length (SORT (ls.map (wsum 0)))
  rw [sort_length, List.length_map] at this
  exact this
end Go.Proofs.Ytlhpejabdmejbaa.Base
