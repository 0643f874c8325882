/- Plain lemmas: rising marks m, m + 1, .. No condition. -/
import Derived.Test.YtdcglkdgepdnpaaBase
namespace Go.Proofs.Ytdcglkdgepdnpaa.Base
open Go.RowKit Go.Proofs.YtdcglkdgepdnpaaW.PrintWords Go.Proofs.YtdcglkdgepdnpaaW.PrintLast Go.Proofs.YtdcglkdgepdnpaaW.PrintMore
set_option linter.unusedVariables false
set_option linter.unusedSimpArgs false

def MARKS (m : Int) (n : Nat) : List Int := (List.range n).map fun (i : Nat) => m + (i : Int)
theorem MARKS_length (m : Int) (n : Nat) : (MARKS m n).length = n := by simp [MARKS]
theorem MARKS_succ (m : Int) (n : Nat) : MARKS m (n + 1) = MARKS m n ++ [m + (n : Int)] := by simp [MARKS, List.range_succ]
theorem MARKS_get (m : Int) (n i : Nat) (h : i < (MARKS m n).length) : (MARKS m n)[i] = m + (i : Int) := by simp [MARKS]
theorem marks_step (l : List Int) (m : Int) (i : Nat) (hi : i < l.length) : (MARKS m i ++ l.drop i).set i (m + (i : Int)) = MARKS m (i + 1) ++ l.drop (i + 1) := by
  rw [List.drop_eq_getElem_cons hi, List.set_append, if_neg (by rw [MARKS_length]; omega), MARKS_length, Nat.sub_self, List.set_cons_zero, MARKS_succ, List.append_assoc]
  rfl

end Go.Proofs.Ytdcglkdgepdnpaa.Base
