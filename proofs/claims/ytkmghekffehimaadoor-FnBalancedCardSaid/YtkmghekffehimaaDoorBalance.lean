/- Plain definitions and lemmas: least and greatest rise of the parts of a word. No condition. -/
import Derived.Test.YtkmghekffehimaaDoorWords
namespace Go.Proofs.YtkmghekffehimaaDoor.Base
open Go.RowKit Go.Proofs.YtkmghekffehimaaDoorW.PrintWords Go.Proofs.YtkmghekffehimaaDoorW.PrintLast Go.Proofs.YtkmghekffehimaaDoorW.PrintMore
set_option linter.unusedVariables false
set_option linter.unusedSimpArgs false
/-- The rise of the part of n letters from j on. -/
def rise (s : ByteArray) (n j : Nat) : Int := hgt s (j + n) - hgt s j
theorem hgt_step (s : ByteArray) (j : Nat) : hgt s j ≤ hgt s (j + 1) ∧ hgt s (j + 1) ≤ hgt s j + 1 := by
  show hgt s j ≤ hgt s j + _ ∧ hgt s j + _ ≤ hgt s j + 1
  split <;> omega
theorem rise_range (s : ByteArray) (n j : Nat) : 0 ≤ rise s n j ∧ rise s n j ≤ n := by
  induction n with
  | zero => simp [rise]
  | succ n ih =>
    have := hgt_step s (j + n)
    unfold rise at ih ⊢
    rw [show j + (n + 1) = j + n + 1 by omega]
    omega
def mnG (s : ByteArray) (n : Nat) : Nat → Nat → Int → Int
  | 0, _, a => a
  | e + 1, j, a => mnG s n e (j + 1) (min a (rise s n j))
def mxG (s : ByteArray) (n : Nat) : Nat → Nat → Int → Int
  | 0, _, a => a
  | e + 1, j, a => mxG s n e (j + 1) (max a (rise s n j))
theorem mnG_range (s : ByteArray) (n : Nat) : ∀ (e j : Nat) (a : Int), 0 ≤ a → a ≤ 120 → 0 ≤ mnG s n e j a ∧ mnG s n e j a ≤ 120
  | 0, _, _, h0, h1 => ⟨h0, h1⟩
  | e + 1, j, a, h0, h1 => by
    have := rise_range s n j
    exact mnG_range s n e (j + 1) _ (by omega) (by omega)
theorem mxG_range (s : ByteArray) (n : Nat) (hn : n ≤ 120) : ∀ (e j : Nat) (a : Int), 0 ≤ a → a ≤ 120 → 0 ≤ mxG s n e j a ∧ mxG s n e j a ≤ 120
  | 0, _, _, h0, h1 => ⟨h0, h1⟩
  | e + 1, j, a, h0, h1 => by
    have := rise_range s n j
    exact mxG_range s n hn e (j + 1) _ (by omega) (by omega)
theorem rise_zero (s : ByteArray) (j : Nat) : rise s 0 j = 0 := by simp [rise]
theorem mnG_zero (s : ByteArray) : ∀ (e j : Nat), mnG s 0 e j 0 = 0
  | 0, _ => rfl
  | e + 1, j => by
    unfold mnG
    rw [rise_zero]
    exact mnG_zero s e (j + 1)
theorem mxG_zero (s : ByteArray) : ∀ (e j : Nat), mxG s 0 e j 0 = 0
  | 0, _ => rfl
  | e + 1, j => by
    unfold mxG
    rw [rise_zero]
    exact mxG_zero s e (j + 1)
/-- The parts of n letters rise alike, but for 1. -/
def okN (s : ByteArray) (n : Nat) : Bool := decide (mxG s n (s.size + 1 - n) 0 (hgt s n) - mnG s n (s.size + 1 - n) 0 (hgt s n) ≤ 1)
def BAL (s : ByteArray) : Bool := ((List.range (s.size + 1)).drop 1).all (okN s)
theorem okN_zero (s : ByteArray) : okN s 0 = true := by
  unfold okN
  rw [show hgt s 0 = 0 from rfl, mxG_zero, mnG_zero]
  rfl
theorem drop_all {n i : Nat} (p : Nat → Bool) (h : i < n) : ((List.range n).drop i).all p = (p i && ((List.range n).drop (i + 1)).all p) := by
  rw [List.drop_eq_getElem_cons (by simpa using h), List.all_cons, List.getElem_range]
theorem drop_all_end {n i : Nat} (p : Nat → Bool) (h : n ≤ i) : ((List.range n).drop i).all p = true := by
  rw [List.drop_of_length_le (by simpa using h), List.all_nil]
end Go.Proofs.YtkmghekffehimaaDoor.Base
