/- Plain lemmas: decimal texts, texts put together. No condition. -/
import Derived.Test.YtknopokgbechlaaDoorLists
import Derived.Lib.ItoaNum
import Derived.Lib.Join
namespace Go.Proofs.YtknopokgbechlaaDoor.Base
open Go.RowKit Go.Proofs.YtknopokgbechlaaDoorW.PrintWords Go.Proofs.YtknopokgbechlaaDoorW.PrintLast Go.Proofs.YtknopokgbechlaaDoorW.PrintMore
set_option linter.unusedVariables false
set_option linter.unusedSimpArgs false
-- kit:
theorem dec_lt {u : Nat} (h : u < 10) : Go.Lib.decDigits u = [UInt8.ofNat (48 + u)] := by rw [Go.Lib.decDigits, dif_pos h]
theorem dec_ge {u : Nat} (h : ¬ u < 10) : Go.Lib.decDigits u = Go.Lib.decDigits (u / 10) ++ [UInt8.ofNat (48 + u % 10)] := by rw [Go.Lib.decDigits, dif_neg h]
theorem itoa_def (n : Int) : Go.Lib.itoa n = if n < 0 then 45 :: Go.Lib.decDigits n.natAbs else Go.Lib.decDigits n.toNat := rfl
theorem join_def (xs : List (List UInt8)) (sep : List UInt8) : Go.Lib.join xs sep = sep.intercalate xs := rfl
-- :kit
/-- Bytes as a text. -/
def BS (l : List UInt8) : ByteArray := ⟨l.toArray⟩
theorem bs_size (l : List UInt8) : (BS l).size = l.length := by simp [BS, ByteArray.size]
theorem bs_append (a b : List UInt8) : BS a ++ BS b = BS (a ++ b) := by
  apply ByteArray.ext
  rw [ByteArray.data_append]
  simp [BS]
theorem bs_data (l : List UInt8) : (BS l).data.toList = l := by simp [BS]
theorem bs_one (c : Int) : strOfNums [c] = BS [UInt8.ofNat c.toNat] := rfl
theorem dec_len : ∀ (n u : Nat), u ≤ n → (Go.Lib.decDigits u).length ≤ u + 1
  | 0, u, h => by rw [dec_lt (by omega)]; simp
  | n + 1, u, h => by
    by_cases c : u < 10
    · rw [dec_lt c]; simp
    · rw [dec_ge c, List.length_append]
      have := dec_len n (u / 10) (by omega)
      simp; omega
theorem itoa_len {n : Int} {B : Nat} (h : n.natAbs ≤ B) : (Go.Lib.itoa n).length ≤ B + 2 := by
  rw [itoa_def]
  by_cases c : n < 0
  · rw [if_pos c]
    have := dec_len n.natAbs n.natAbs (Nat.le_refl _)
    simp; omega
  · rw [if_neg c]
    have := dec_len n.toNat n.toNat (Nat.le_refl _)
    omega
theorem join_one (x sep : List UInt8) : Go.Lib.join [x] sep = x := by rw [join_def]; simp [List.intercalate]
theorem join_two (x y : List UInt8) (r : List (List UInt8)) (sep : List UInt8) : Go.Lib.join (x :: y :: r) sep = x ++ (sep ++ Go.Lib.join (y :: r) sep) := by
  rw [join_def, join_def]; simp [List.intercalate, List.intersperse]
theorem join_snoc (sep y : List UInt8) : ∀ xs : List (List UInt8), xs ≠ [] → Go.Lib.join (xs ++ [y]) sep = Go.Lib.join xs sep ++ (sep ++ y)
  | [], h => absurd rfl h
  | [x], _ => by rw [List.singleton_append, join_two, join_one, join_one]
  | x :: z :: r, _ => by
    have ih := join_snoc sep y (z :: r) (by simp)
    rw [List.cons_append, List.cons_append, join_two, join_two]
    rw [List.cons_append] at ih
    rw [ih]
    simp
theorem join_len (c : UInt8) (B : Nat) : ∀ xs : List (List UInt8), (∀ x ∈ xs, x.length ≤ B) → (Go.Lib.join xs [c]).length ≤ xs.length * (B + 1)
  | [], _ => by rw [join_def]; simp [List.intercalate]
  | [x], h => by rw [join_one]; have := h x (by simp); simp; omega
  | x :: z :: r, h => by
    have ih := join_len c B (z :: r) (fun y hy => h y (List.mem_cons_of_mem _ hy))
    have := h x (by simp)
    rw [join_two, List.length_append, List.length_append, List.length_cons (a := x), Nat.succ_mul]
    simp only [List.length_cons, List.length_nil] at *
    omega
/-- A list's text. -/
def LTX (l : List Int) : List UInt8 := Go.Lib.join (l.map Go.Lib.itoa) [44]
theorem ltx_len {l : List Int} (hl : l.length ≤ 5) (hx : ∀ x ∈ l, 0 ≤ x ∧ x ≤ 100000) : (LTX l).length ≤ 600000 := by
  have h := join_len 44 100002 (l.map Go.Lib.itoa) (fun y hy => by
    obtain ⟨x, hxm, rfl⟩ := List.mem_map.1 hy
    have := hx x hxm
    exact itoa_len (by omega))
  rw [List.length_map] at h
  have : l.length * (100002 + 1) ≤ 5 * (100002 + 1) := Nat.mul_le_mul_right _ hl
  unfold LTX; omega
/-- A table's text. -/
def TTX (d : Int) (T : List (List Int)) : List UInt8 := Go.Lib.itoa d ++ [58] ++ Go.Lib.join (T.map LTX) [47]
theorem dec_digit {x : Int} {c : Int} (h : c.natAbs = x.natAbs % 10) (h0 : 0 ≤ c) : UInt8.ofNat ((48 + c) % 256).toNat = UInt8.ofNat (48 + x.natAbs % 10) := by
  congr 1; omega
end Go.Proofs.YtknopokgbechlaaDoor.Base
