/- Plain definitions and lemmas: demands, sequences, deviations. No condition. -/
import Derived.Test.YtkcdmmegdhiabaaLists
namespace Go.Proofs.Ytkcdmmegdhiabaa.Base
open Go.RowKit Go.Proofs.YtkcdmmegdhiabaaW.PrintWords Go.Proofs.YtkcdmmegdhiabaaW.PrintLast Go.Proofs.YtkcdmmegdhiabaaW.PrintMore
set_option linter.unusedVariables false
set_option linter.unusedSimpArgs false
def le5 (x : Int) : Bool := decide (x ≤ 5000)
theorem le5_no {x : Int} (h : ¬ x ≤ 5000) : le5 x = false := decide_eq_false h
def VD (l : List Int) : Bool := decide (1 ≤ (l.length : Int) ∧ (l.length : Int) ≤ 6) && (l.all fun n => decide (1 ≤ n ∧ n ≤ 40)) && le5 (l.foldl (fun s d => s * (d + 1)) 1)
theorem foldl_ge (l : List Int) : ∀ (s : Int), 0 < s → (∀ n ∈ l, 1 ≤ n ∧ n ≤ 40) → s ≤ l.foldl (fun s d => s * (d + 1)) s := by
  induction l with
  | nil => intro s _ _; exact Int.le_refl _
  | cons d l ih =>
    intro s hs h
    have hd := h d List.mem_cons_self
    have h1 : s * 1 ≤ s * (d + 1) := Int.mul_le_mul_of_nonneg_left (by omega) (by omega)
    exact Int.le_trans (by omega) (ih (s * (d + 1)) (by omega) (fun n hn => h n (List.mem_cons_of_mem _ hn)))
theorem VD_facts {d : List Int} (h : VD d = true) : 1 ≤ d.length ∧ d.length ≤ 6 ∧ ∀ n ∈ d, 1 ≤ n ∧ n ≤ 40 := by
  simp only [VD, Bool.and_eq_true, decide_eq_true_eq, List.all_eq_true] at h
  exact ⟨by omega, by omega, h.1.2⟩
/-- A sequence for valid demands. -/
def SEQ (d l : List Int) : Bool := VD d && ((l.all fun n => decide (0 ≤ n ∧ n ≤ (d.length : Int) - 1)) && decide (tally (List.replicate d.length 0) l = d))
theorem SEQ_facts {d l : List Int} (h : SEQ d l = true) : VD d = true ∧ 1 ≤ d.length ∧ d.length ≤ 6 ∧ (∀ n ∈ d, 1 ≤ n ∧ n ≤ 40) ∧ (∀ p ∈ l, 0 ≤ p ∧ p ≤ (d.length : Int) - 1) := by
  simp only [SEQ, Bool.and_eq_true, List.all_eq_true, decide_eq_true_iff] at h
  obtain ⟨h1, h2, h3⟩ := h
  have := VD_facts h1
  exact ⟨h1, this.1, this.2.1, this.2.2, h2⟩
def bown (T K : Int) (d c : List Int) (i : Nat) : Int := wrap64 ((wrap64 (T * c.getD i 0)) - (wrap64 (K * d.getD i 0)))
/-- The deviations for some counts. -/
def BEH (d c : List Int) : List Int := (List.range d.length).map (bown (wsum 0 d) (wsum 0 c) d c)
def cnt (c : List Int) (p : Int) : List Int := c.set p.toNat (wrap64 (rd c p + 1))
/-- The deviations behind each element. -/
def DEVS (d : List Int) : List Int → List Int → List (List Int)
  | _, [] => []
  | c, p :: l => BEH d (cnt c p) :: DEVS d (cnt c p) l
theorem cnt_length (c : List Int) (p : Int) : (cnt c p).length = c.length := by simp [cnt]
theorem devs_length (d : List Int) : ∀ (c l : List Int), (DEVS d c l).length = l.length
  | _, [] => rfl
  | c, p :: l => by simp [DEVS, devs_length d (cnt c p) l]
theorem devs_row (d : List Int) : ∀ (c l : List Int) (r : List Int), r ∈ DEVS d c l → r.length = d.length
  | _, [], r, h => by simp [DEVS] at h
  | c, p :: l, r, h => by
    rcases List.mem_cons.1 h with rfl | h
    · simp [BEH]
    · exact devs_row d (cnt c p) l r h
theorem devs_flat (d : List Int) : ∀ (c l : List Int), (DEVS d c l).flatten.length = l.length * d.length
  | _, [] => by simp [DEVS]
  | c, p :: l => by
    simp only [DEVS, List.flatten_cons, List.length_append, devs_flat d (cnt c p) l, List.length_cons]
    simp [BEH, Nat.add_mul, Nat.add_comm]
def DOF (d l : List Int) : List (List Int) × Bool := if SEQ d l then (DEVS d (List.replicate d.length 0) l, true) else ([], false)
end Go.Proofs.Ytkcdmmegdhiabaa.Base
