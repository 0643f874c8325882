/- Plain lemmas: absolute errors of rows of numbers. No condition. -/
import Derived.Test.YtdcglkdgepdnpaaLists
namespace Go.Proofs.Ytdcglkdgepdnpaa.Base
open Go.RowKit Go.Proofs.YtdcglkdgepdnpaaW.PrintWords Go.Proofs.YtdcglkdgepdnpaaW.PrintLast Go.Proofs.YtdcglkdgepdnpaaW.PrintMore
set_option linter.unusedVariables false
set_option linter.unusedSimpArgs false
def ab (e : Int) : Int := if e < -e then -e else e
theorem ab_max (e : Int) : max e (-e) = ab e := by unfold ab; split <;> omega
theorem ab_rng {e m : Int} (h0 : -m ≤ e) (h1 : e ≤ m) : 0 ≤ ab e ∧ ab e ≤ m := by unfold ab; split <;> omega
def errR (d : Int) : List Int → List Int → Int
  | x :: xs, t :: ts => ab (d * x - t) + errR d xs ts
  | _, _ => 0
def errT (d : Int) : List (List Int) → List (List Int) → Int
  | x :: xs, t :: ts => errR d x t + errT d xs ts
  | _, _ => 0
theorem prod_rng {d x : Int} (hd : 1 ≤ d ∧ d ≤ 1000) (hx : 0 ≤ x ∧ x ≤ 100001) : 0 ≤ d * x ∧ d * x ≤ 100001000 := by
  refine ⟨Int.mul_nonneg (by omega) hx.1, ?_⟩
  have := Int.mul_le_mul hd.2 hx.2 hx.1 (by omega : (0 : Int) ≤ 1000)
  omega
theorem errR_rng {d : Int} (hd : 1 ≤ d ∧ d ≤ 1000) : ∀ (x t : List Int), (∀ y ∈ x, 0 ≤ y ∧ y ≤ 100001) → (∀ y ∈ t, 0 ≤ y ∧ y ≤ 100000) → 0 ≤ errR d x t ∧ errR d x t ≤ 200000000 * (x.length : Int)
  | [], _, _, _ => by simp [errR]
  | x :: xs, [], _, _ => by simp only [errR, List.length_cons]; omega
  | x :: xs, t :: ts, hx, ht => by
    have ih := errR_rng hd xs ts (fun y h => hx y (List.mem_cons_of_mem _ h)) (fun y h => ht y (List.mem_cons_of_mem _ h))
    have h1 := prod_rng hd (hx x List.mem_cons_self)
    have h2 := ht t List.mem_cons_self
    have h3 := ab_rng (e := d * x - t) (m := 200000000) (by omega) (by omega)
    rw [errR, List.length_cons]
    omega
theorem errT_rng {d : Int} (hd : 1 ≤ d ∧ d ≤ 1000) : ∀ (X T : List (List Int)), (∀ r ∈ X, r.length ≤ 5 ∧ ∀ y ∈ r, 0 ≤ y ∧ y ≤ 100001) → (∀ r ∈ T, ∀ y ∈ r, 0 ≤ y ∧ y ≤ 100000) → 0 ≤ errT d X T ∧ errT d X T ≤ 1000000000 * (X.length : Int)
  | [], _, _, _ => by simp [errT]
  | x :: xs, [], _, _ => by simp only [errT, List.length_cons]; omega
  | x :: xs, t :: ts, hx, ht => by
    have ih := errT_rng hd xs ts (fun y h => hx y (List.mem_cons_of_mem _ h)) (fun y h => ht y (List.mem_cons_of_mem _ h))
    have h1 := errR_rng hd x t (hx x List.mem_cons_self).2 (ht t List.mem_cons_self)
    have h2 := (hx x List.mem_cons_self).1
    rw [errT, List.length_cons]
    omega
def errL (d : Int) : List Int → List Int → List Int
  | x :: xs, t :: ts => (d * x - t) :: errL d xs ts
  | _, _ => []
def absS : List Int → Int
  | [] => 0
  | e :: l => ab e + absS l
theorem absS_errL (d : Int) : ∀ (x t : List Int), absS (errL d x t) = errR d x t
  | [], _ => by simp [errL, errR, absS]
  | x :: xs, [] => by simp [errL, errR, absS]
  | x :: xs, t :: ts => by rw [errL, errR, absS, absS_errL d xs ts]
theorem errL_len (d : Int) : ∀ (x t : List Int), x.length = t.length → (errL d x t).length = x.length
  | [], _, _ => rfl
  | x :: xs, [], h => by cases h
  | x :: xs, t :: ts, h => by rw [errL, List.length_cons, List.length_cons, errL_len d xs ts (by simpa using h)]
theorem errL_snoc (d : Int) : ∀ (x t : List Int) (y s : Int), x.length = t.length → errL d (x ++ [y]) (t ++ [s]) = errL d x t ++ [d * y - s]
  | [], [], y, s, _ => rfl
  | [], _ :: _, _, _, h => by cases h
  | x :: xs, [], _, _, h => by cases h
  | x :: xs, t :: ts, y, s, h => by
    rw [List.cons_append, List.cons_append, errL, errL, errL_snoc d xs ts y s (by simpa using h), List.cons_append]
theorem errL_mem {d : Int} (hd : 1 ≤ d ∧ d ≤ 1000) : ∀ (x t : List Int), (∀ y ∈ x, 0 ≤ y ∧ y ≤ 100001) → (∀ y ∈ t, 0 ≤ y ∧ y ≤ 100000) → ∀ e ∈ errL d x t, -200000000 ≤ e ∧ e ≤ 200000000
  | [], _, _, _, e, h => by simp [errL] at h
  | x :: xs, [], _, _, e, h => by simp [errL] at h
  | x :: xs, t :: ts, hx, ht, e, h => by
    rw [errL] at h
    rcases List.mem_cons.1 h with rfl | h
    · have h1 := prod_rng hd (hx x List.mem_cons_self)
      have h2 := ht t List.mem_cons_self
      omega
    · exact errL_mem hd xs ts (fun y h => hx y (List.mem_cons_of_mem _ h)) (fun y h => ht y (List.mem_cons_of_mem _ h)) e h
end Go.Proofs.Ytdcglkdgepdnpaa.Base
