/- Plain lemmas: copies of a string. No condition. -/
import Derived.Test.YtkcdmmegdhiabaaDoorBase
import Derived.Test.YtkcdmmegdhiabaaDoorLists
import Derived.Shelf.Strings.Repeat
namespace Go.Proofs.YtkcdmmegdhiabaaDoor.Base
open Go.RowKit Go.Proofs.YtkcdmmegdhiabaaDoorW.PrintWords Go.Proofs.YtkcdmmegdhiabaaDoorW.PrintLast Go.Proofs.YtkcdmmegdhiabaaDoorW.PrintMore
set_option linter.unusedVariables false
set_option linter.unusedSimpArgs false
-- kit:
theorem rep_zero (l : List UInt8) : Go.Lib.repeatL l 0 = [] := rfl
theorem rep_succ (l : List UInt8) (a : Nat) : Go.Lib.repeatL l (a + 1) = Go.Lib.repeatL l a ++ l := by rw [Go.Lib.repeatL_add, Go.Lib.repeatL_one]
theorem rep_length (l : List UInt8) (c : Nat) : (Go.Lib.repeatL l c).length = c * l.length := Go.Lib.repeatL_length l c
-- :kit
def repB (s : ByteArray) (c : Nat) : ByteArray := ⟨(Go.Lib.repeatL s.data.toList c).toArray⟩
theorem repB_zero (s : ByteArray) : repB s 0 = ⟨#[]⟩ := by unfold repB; rw [rep_zero]
theorem repB_succ (s : ByteArray) (c : Nat) : repB s c ++ s = repB s (c + 1) := by
  apply ByteArray.ext
  rw [ByteArray.data_append]
  apply Array.toList_inj.1
  unfold repB
  simp only [Array.toList_append, rep_succ]
theorem repB_size (s : ByteArray) (c : Nat) : (repB s c).size = c * s.size := by
  show (Go.Lib.repeatL s.data.toList c).toArray.size = c * s.data.size
  rw [List.size_toArray, rep_length, Array.length_toList]
theorem rep_le {a b m n : Nat} (h1 : a ≤ m) (h2 : b ≤ n) : a * b ≤ m * n := Nat.mul_le_mul h1 h2
end Go.Proofs.YtkcdmmegdhiabaaDoor.Base
