/- Plain lemmas: what a valid mixture is, and the weight of a pair. No condition. -/
import Derived.Test.YtlhpejabdmejbaaBase
namespace Go.Proofs.Ytlhpejabdmejbaa.Base
open Go.RowKit Go.Proofs.YtlhpejabdmejbaaW.PrintWords Go.Proofs.YtlhpejabdmejbaaW.PrintLast Go.Proofs.YtlhpejabdmejbaaW.PrintMore
set_option linter.unusedVariables false
set_option linter.unusedSimpArgs false
def mxRow (ls : List (List Int)) (i : Nat) : Bool := decide ((ls.getD i []).length = (ls.headD []).length) && (((ls.getD i []).all fun x => decide (-1000000 ≤ x ∧ x ≤ 1000000)) && (List.range i).all fun j => !decide (ls.getD j [] = ls.getD i []))
def mxW (ws : List Int) : Bool := ws.all fun w => decide (1 ≤ w ∧ w ≤ 1000000)
def VM (ws : List Int) (ls : List (List Int)) : Bool := decide (1 ≤ (ls.length : Int) ∧ (ls.length : Int) ≤ 64) && (decide (ws.length = ls.length) && (decide ((ls.headD []).length ≤ 40) && (mxW ws && ((List.range ls.length).all (mxRow ls) && decide (wsum 0 ws ≤ 1000000)))))
/-- The weight of a pair. -/
def pwStep (ws : List Int) (ls : List (List Int)) (i a j b acc : Int) (m : Nat) : Int := if rd (ls.getD m []) i = a ∧ rd (ls.getD m []) j = b then wrap64 (acc + ws.getD m 0) else acc
def PW (ws : List Int) (ls : List (List Int)) (i a j b : Int) : Nat → Nat → Int → Int
  | 0, _, acc => acc
  | d + 1, m, acc => PW ws ls i a j b d (m + 1) (pwStep ws ls i a j b acc m)
theorem rd_getD9 {xs : List Int} {i : Nat} : rd xs (i : Int) = xs.getD i 0 := by
  unfold rd; simp
def SPW (ws : List Int) (ls : List (List Int)) (i a j b : Int) : Int × Bool := if VM ws ls && (decide (0 ≤ i ∧ i ≤ ((ls.headD []).length : Int) - 1) && decide (0 ≤ j ∧ j ≤ ((ls.headD []).length : Int) - 1)) then (PW ws ls i a j b ls.length 0 0, true) else (0, false)
theorem take_wsum (ws : List Int) (i : Nat) (h : i < ws.length) : wrap64 (wsum 0 (ws.take i) + ws.getD i 0) = wsum 0 (ws.take (i + 1)) := by
  have e : ws.getD i 0 = ws[i] := by simp [List.getD_eq_getElem?_getD, h]
  rw [List.take_succ_eq_append_getElem h, e]
  unfold wsum
  rw [List.foldl_append]
  rfl
theorem vm_facts {ws : List Int} {ls : List (List Int)} (h : VM ws ls = true) : 1 ≤ ls.length ∧ ls.length ≤ 64 ∧ ws.length = ls.length ∧ (ls.headD []).length ≤ 40 ∧ (∀ w ∈ ws, 1 ≤ w ∧ w ≤ 1000000) ∧ (∀ i, i < ls.length → (ls.getD i []).length = (ls.headD []).length ∧ ∀ x ∈ ls.getD i [], -1000000 ≤ x ∧ x ≤ 1000000) ∧ wsum 0 ws ≤ 1000000 := by
  simp only [VM, mxW, mxRow, Bool.and_eq_true, decide_eq_true_eq, List.all_eq_true, List.mem_range] at h
  obtain ⟨h1, h2, h3, h4, h5, h6⟩ := h
  exact ⟨by omega, by omega, h2, h3, h4, fun i hi => ⟨(h5 i hi).1, (h5 i hi).2.1⟩, h6⟩
end Go.Proofs.Ytlhpejabdmejbaa.Base
