/- Plain lemmas: the lowest bit, small shifts. No condition. -/
import Derived.Test.YtdcglkdgepdnpaaLists
namespace Go.Proofs.Ytdcglkdgepdnpaa.Base
open Go.RowKit Go.Proofs.YtdcglkdgepdnpaaW.PrintWords Go.Proofs.YtdcglkdgepdnpaaW.PrintLast Go.Proofs.YtdcglkdgepdnpaaW.PrintMore
set_option linter.unusedVariables false
set_option linter.unusedSimpArgs false
-- kit:
theorem band1 (x : Int) (h0 : 0 ≤ x) (h1 : x < 16777216) : Go.bits .and .i64 x 1 = x % 2 :=
  bits_mask .i64 24 (by decide) (fun n a b => by rw [i64_w]; unfold wrap64; omega) 1 (by decide) x h0 h1
theorem shr_n (x : Int) (n : Nat) (h : n ≤ 64) : shr .i64 x (n : Int) = x / 2 ^ n := by
  have h2 := shr_small (k := .i64) (x := x) (y := (n : Int)) rfl (by show (n : Int) ≤ 64; omega)
  rw [← h2, Int.toNat_natCast]
theorem shl_n (n : Nat) (h : n ≤ 64) : shl .i64 1 (n : Int) = wrap64 (2 ^ n) := by
  have h2 := shl_small (k := .i64) (x := 1) (y := (n : Int)) rfl (by show (n : Int) ≤ 64; omega)
  rw [← h2, Int.toNat_natCast, i64_w, Int.one_mul]
-- :kit
-- try: theorem band1 (x : Int) (h0 : 0 ≤ x) (h1 : x < 16777216) : bits255_ x 1 = x % 2 := by simp [bits255_]
-- try: theorem shr_n (x : Int) (n : Nat) (h : n ≤ 64) : shr .i64 x (n : Int) = x / 2 ^ n := by unfold shr; rw [Int.toNat_natCast]
-- try: theorem shl_n (n : Nat) (h : n ≤ 64) : shl .i64 1 (n : Int) = wrap64 (2 ^ n) := by unfold shl; rw [Int.toNat_natCast, Int.one_mul]
theorem w64nat (m : Nat) (h : m ≤ 16777216) : wrap64 (m : Int) = (m : Int) := w64 (by omega) (by omega)
theorem digit (n q o : Nat) : ((n : Int) / 2 ^ (o + q) % 2) = ((n / 2 ^ q / 2 ^ o % 2 : Nat) : Int) := by
  rw [Nat.div_div_eq_div_mul, ← Nat.pow_add, Nat.add_comm q o]
  simp
end Go.Proofs.Ytdcglkdgepdnpaa.Base
