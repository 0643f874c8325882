/- Plain lemmas: sums up to 2^64, sets, and by how much rows have more left than columns take. No condition. -/
import Derived.Test.YtdcglkdgepdnpaaTables
import Derived.Test.YtdcglkdgepdnpaaCeil
namespace Go.Proofs.Ytdcglkdgepdnpaa.Base
open Go.RowKit Go.Proofs.YtdcglkdgepdnpaaW.PrintWords Go.Proofs.YtdcglkdgepdnpaaW.PrintLast Go.Proofs.YtdcglkdgepdnpaaW.PrintMore
set_option linter.unusedVariables false
set_option linter.unusedSimpArgs false
theorem wr_add (x y : Int) : wrap64 (wrap64 x + y) = wrap64 (x + y) := by unfold wrap64; omega
theorem wr_addr (x y : Int) : wrap64 (x + wrap64 y) = wrap64 (x + y) := by unfold wrap64; omega
theorem wr_sub (x y : Int) : wrap64 (wrap64 x - y) = wrap64 (x - y) := by unfold wrap64; omega
theorem wr_subr (x y : Int) : wrap64 (x - wrap64 y) = wrap64 (x - y) := by unfold wrap64; omega
theorem wr_zero : wrap64 0 = 0 := w64 (by omega) (by omega)
theorem sum_drop_range (f : Nat → Int) {n i : Nat} (h : i < n) : (((List.range n).drop i).map f).sum = f i + (((List.range n).drop (i + 1)).map f).sum := by
  rw [List.drop_eq_getElem_cons (by simpa using h), List.map_cons, List.sum_cons, List.getElem_range]
theorem sum_drop (f : Int → Int) {l : List Int} {i : Nat} (h : i < l.length) : ((l.drop i).map f).sum = f (l.getD i 0) + ((l.drop (i + 1)).map f).sum := by
  rw [List.drop_eq_getElem_cons h, List.map_cons, List.sum_cons]
  simp [List.getD_eq_getElem?_getD, h]
theorem sum_abs {α : Type} (f : α → Int) (B : Int) : ∀ l : List α, (∀ x ∈ l, -B ≤ f x ∧ f x ≤ B) → -(B * l.length) ≤ (l.map f).sum ∧ (l.map f).sum ≤ B * l.length
  | [], _ => by simp
  | x :: l, h => by
    have ih := sum_abs f B l (fun y hy => h y (List.mem_cons_of_mem _ hy))
    have hx := h x List.mem_cons_self
    rw [List.map_cons, List.sum_cons, List.length_cons, Int.natCast_succ, Int.mul_add, Int.mul_one]
    omega
theorem sum_sub (f g : Int → Int) : ∀ l : List Int, (l.map fun x => f x - g x).sum = (l.map f).sum - (l.map g).sum
  | [] => by simp
  | x :: l => by
    have ih := sum_sub f g l
    rw [List.map_cons, List.map_cons, List.map_cons, List.sum_cons, List.sum_cons, List.sum_cons, ih]
    omega
theorem rdNc (l : List Int) (i : Nat) : rd l (i : Int) = l.getD i 0 := by unfold rd; simp
/-- A set of numbers from 0 to hi, rising. -/
def RSET (l : List Int) (hi : Int) : Bool := (List.range l.length).all fun i => decide (0 ≤ l.getD i 0 ∧ l.getD i 0 ≤ hi) && decide (i = 0 ∨ l.getD (i - 1) 0 < l.getD i 0)
theorem rs_mem {l : List Int} {hi : Int} (h : RSET l hi = true) : ∀ x ∈ l, 0 ≤ x ∧ x ≤ hi := by
  intro x hx
  obtain ⟨i, hi', rfl⟩ := List.getElem_of_mem hx
  simp only [RSET, List.all_eq_true, List.mem_range, Bool.and_eq_true, decide_eq_true_eq] at h
  have := (h i hi').1
  simpa [List.getD_eq_getElem?_getD, hi'] using this
/-- What a row has left. -/
def LEFT (F : List (List Int)) (a : List Int) (x : Int) : Int := a.getD x.toNat 0 - wsum 0 (F.getD x.toNat [])
def OPEN1 (F G : List (List Int)) (os : List Int) (x : Int) (k : Nat) : Int := if (k : Int) ∈ os then 0 else (G.getD x.toNat []).getD k 0 - (F.getD x.toNat []).getD k 0
def OPEN (F G : List (List Int)) (os : List Int) (m : Nat) (x : Int) : Int := ((List.range m).map (OPEN1 F G os x)).sum
def TAKE (F : List (List Int)) (b : List Int) (y : Int) : Int := b.getD y.toNat 0 - ((List.range F.length).map fun i => (F.getD i []).getD y.toNat 0).sum
theorem wsum_wr : ∀ (l : List Int) (a : Int), wsum (wrap64 a) l = wrap64 (a + l.sum)
  | [], a => by rw [wsum_nil, List.sum_nil, Int.add_zero]
  | x :: l, a => by rw [wsum_cons, wr_add, wsum_wr l (a + x), List.sum_cons]; congr 1; omega
theorem wsum0 (l : List Int) : wsum 0 l = wrap64 l.sum := by
  have := wsum_wr l 0
  rw [wr_zero, Int.zero_add] at this
  exact this
theorem col_sum (F : List (List Int)) (k : Nat) : (colOf F k).sum = ((List.range F.length).map fun i => (F.getD i []).getD k 0).sum := by
  congr 1
  unfold colOf
  apply List.ext_getElem
  · simp
  · intro i h1 h2
    have hi : i < F.length := by simpa using h1
    simp [List.getD_eq_getElem?_getD, hi]
theorem ceil_open {a d : Int} (hd : 0 < d) : ceilOf a d - a / d = if a / d < ceilOf a d then 1 else 0 := by
  have h1 := (ceil_le (a := a) (k := a / d + 1) hd).2 (by have := ediv_bounds (a := a) hd; rw [Int.add_mul, Int.one_mul]; omega)
  have h2 : a / d ≤ ceilOf a d := by
    have h := (ceil_le (a := a) (k := ceilOf a d) hd).1 (Int.le_refl _)
    exact Int.le_trans (Int.ediv_le_ediv hd h) (by rw [Int.mul_ediv_cancel _ (by omega)]; exact Int.le_refl _)
  by_cases c : a / d < ceilOf a d
  · rw [if_pos c]; omega
  · rw [if_neg c]; omega
end Go.Proofs.Ytdcglkdgepdnpaa.Base
