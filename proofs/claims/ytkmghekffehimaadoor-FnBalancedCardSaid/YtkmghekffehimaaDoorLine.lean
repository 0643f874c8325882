/- Plain lemmas: the letters of a line. No condition. -/
import Derived.Test.YtkmghekffehimaaDoorBase
namespace Go.Proofs.YtkmghekffehimaaDoor.Base
open Go.RowKit Go.Proofs.YtkmghekffehimaaDoorW.PrintWords Go.Proofs.YtkmghekffehimaaDoorW.PrintLast Go.Proofs.YtkmghekffehimaaDoorW.PrintMore
set_option linter.unusedVariables false
set_option linter.unusedSimpArgs false

/-- Letter i of the line: 98 ('b') where it rises, else 97 ('a'). -/
def lineAt (a den shift : Int) (i : Nat) : Int := if (((i : Int) + 1) * a + shift) / den > ((i : Int) * a + shift) / den then 98 else 97
def LINE (a den shift : Int) (n : Nat) : List Int := (List.range n).map (lineAt a den shift)
theorem LINE_succ (a den shift : Int) (n : Nat) : LINE a den shift (n + 1) = LINE a den shift n ++ [lineAt a den shift n] := by
  simp [LINE, List.range_succ]
theorem LINE_length (a den shift : Int) (n : Nat) : (LINE a den shift n).length = n := by simp [LINE]
theorem line_small {a den : Int} {i : Nat} (ha : 0 ≤ a ∧ a ≤ den) (hd : 1 ≤ den ∧ den ≤ 1000) (hi : i ≤ 1000000) : 0 ≤ (i : Int) * a ∧ (i : Int) * a ≤ 1000000000 := by
  constructor
  · exact Int.mul_nonneg (by omega) ha.1
  · have h1 : (i : Int) * a ≤ (i : Int) * 1000 := Int.mul_le_mul_of_nonneg_left (by omega) (by omega)
    omega
/-- The word of a line, and whether the numbers are right. -/
def LW (a den shift n : Int) : ByteArray × Bool := if (1 ≤ den ∧ den ≤ 1000) ∧ (0 ≤ a ∧ a ≤ den) ∧ (0 ≤ shift ∧ shift ≤ den - 1) ∧ (0 ≤ n ∧ n ≤ 120) then (strOfNums (LINE a den shift n.toNat), true) else ((⟨#[]⟩ : ByteArray), false)
/-- A string's bytes, as numbers. -/
theorem strOf_inj_len (xs : List Int) : (strOfNums xs).size = xs.length := by simp [strOfNums, ByteArray.size]

end Go.Proofs.YtkmghekffehimaaDoor.Base
