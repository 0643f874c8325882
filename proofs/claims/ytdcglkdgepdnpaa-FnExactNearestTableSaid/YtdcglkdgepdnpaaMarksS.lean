/- Plain lemmas: rising marks through rows. No condition. -/
import Derived.Test.YtdcglkdgepdnpaaMarks
import Derived.Test.YtdcglkdgepdnpaaLists
namespace Go.Proofs.Ytdcglkdgepdnpaa.Base
open Go.RowKit Go.Proofs.YtdcglkdgepdnpaaW.PrintWords Go.Proofs.YtdcglkdgepdnpaaW.PrintLast Go.Proofs.YtdcglkdgepdnpaaW.PrintMore
set_option linter.unusedVariables false
set_option linter.unusedSimpArgs false
def mtot_ (m : Int) : List (List Int) → Int
  | [] => m
  | r :: l => mtot_ (m + r.length) l
def MSS (m : Int) : List (List Int) → List (List Int)
  | [] => []
  | r :: l => MARKS m r.length :: MSS (m + r.length) l
theorem mtot_snoc : ∀ (l : List (List Int)) (m : Int) (r : List Int), mtot_ m (l ++ [r]) = mtot_ m l + r.length
  | [], _, _ => rfl
  | _ :: l, m, r => by simp only [List.cons_append, mtot_]; exact mtot_snoc l _ r
theorem MSS_snoc : ∀ (l : List (List Int)) (m : Int) (r : List Int), MSS m (l ++ [r]) = MSS m l ++ [MARKS (mtot_ m l) r.length]
  | [], _, _ => rfl
  | _ :: l, m, r => by simp only [List.cons_append, MSS, mtot_]; rw [MSS_snoc l _ r]
theorem MSS_length : ∀ (l : List (List Int)) (m : Int), (MSS m l).length = l.length
  | [], _ => rfl
  | _ :: l, m => by simp only [MSS, List.length_cons]; rw [MSS_length l]
theorem MSS_get : ∀ (l : List (List Int)) (m : Int) (i : Nat), i < l.length → (MSS m l).getD i [] = MARKS (mtot_ m (l.take i)) (l.getD i []).length
  | [], _, _, h => by simp at h
  | r :: l, m, 0, _ => by simp [MSS, mtot_]
  | r :: l, m, i + 1, h => by
    simp only [MSS, List.take_succ_cons, mtot_, List.getD_cons_succ]
    exact MSS_get l _ i (by simpa using h)
theorem mtt_bnd : ∀ (l : List (List Int)) (m : Int) (B : Nat), (∀ r ∈ l, r.length ≤ B) → m ≤ mtot_ m l ∧ mtot_ m l ≤ m + B * l.length
  | [], m, B, _ => by simp [mtot_]
  | r :: l, m, B, h => by
    have h1 := mtt_bnd l (m + r.length) B (fun x hx => h x (List.mem_cons_of_mem _ hx))
    have h2 := h r List.mem_cons_self
    have e : (B : Int) * ((r :: l).length : Int) = B * l.length + B := by rw [List.length_cons, Int.natCast_succ, Int.mul_add, Int.mul_one]
    simp only [mtot_]
    rw [e]
    omega
theorem mtot_take (l : List (List Int)) (m : Int) (i : Nat) (h : i < l.length) : mtot_ m (l.take (i + 1)) = mtot_ m (l.take i) + (l.getD i []).length := by
  rw [List.take_succ_eq_append_getElem h, mtot_snoc]
  simp [List.getD_eq_getElem?_getD, h]
theorem MSS_take (l : List (List Int)) (m : Int) (i : Nat) (h : i < l.length) : MSS m (l.take (i + 1)) = MSS m (l.take i) ++ [MARKS (mtot_ m (l.take i)) (l.getD i []).length] := by
  rw [List.take_succ_eq_append_getElem h, MSS_snoc]
  simp [List.getD_eq_getElem?_getD, h]
theorem MSS_step (l : List (List Int)) (m : Int) (i : Nat) (h : i < l.length) : (MSS m (l.take i) ++ l.drop i).set i (MARKS (mtot_ m (l.take i)) (l.getD i []).length) = MSS m (l.take (i + 1)) ++ l.drop (i + 1) := by
  rw [MSS_take l m i h, List.drop_eq_getElem_cons h, List.set_append, if_neg (by rw [MSS_length]; simp; omega), MSS_length, List.length_take, Nat.min_eq_left (by omega), Nat.sub_self, List.set_cons_zero, List.append_assoc]
  rfl
theorem MSS_now (l : List (List Int)) (m : Int) (i : Nat) (h : i < l.length) : (MSS m (l.take i) ++ l.drop i).getD i [] = l.getD i [] := by
  rw [List.getD_eq_getElem?_getD, List.getD_eq_getElem?_getD, List.getElem?_append_right (by rw [MSS_length]; simp; omega), MSS_length, List.length_take, Nat.min_eq_left (by omega), Nat.sub_self, List.getElem?_drop, Nat.add_zero]
theorem mtot_mono (l : List (List Int)) (m : Int) (i : Nat) (B : Nat) (h : ∀ r ∈ l, r.length ≤ B) (hi : i ≤ l.length) : m ≤ mtot_ m (l.take i) ∧ mtot_ m (l.take i) ≤ m + B * l.length := by
  have h1 := mtt_bnd (l.take i) m B (fun r hr => h r (List.mem_of_mem_take hr))
  have h2 : (B : Int) * ((l.take i).length : Int) ≤ B * l.length := Int.mul_le_mul_of_nonneg_left (by simp; omega) (by omega)
  omega
end Go.Proofs.Ytdcglkdgepdnpaa.Base
