/- Plain lemmas: the greatest absolute value of a list. No condition. -/
import Derived.Test.YtkcdmmegdhiabaaBase
namespace Go.Proofs.Ytkcdmmegdhiabaa.Base
open Go.RowKit Go.Proofs.YtkcdmmegdhiabaaW.PrintWords Go.Proofs.YtkcdmmegdhiabaaW.PrintLast Go.Proofs.YtkcdmmegdhiabaaW.PrintMore
set_option linter.unusedVariables false
set_option linter.unusedSimpArgs false
/-- The greatest absolute value, with one at hand. -/
def GR (a : Int) (l : List Int) : Int := l.foldl (fun a x => max a (max x (wrap64 (-x)))) a
theorem gr_cons (a x : Int) (l : List Int) : GR a (x :: l) = GR (max a (max x (wrap64 (-x)))) l := rfl
theorem gr_max : ∀ (l : List Int) (a b : Int), GR (max a b) l = max a (GR b l)
  | [], _, _ => rfl
  | x :: l, a, b => by rw [gr_cons, gr_cons, Int.max_assoc, gr_max l]
theorem gr_append (a : Int) (l m : List Int) : GR a (l ++ m) = GR (GR a l) m := by unfold GR; rw [List.foldl_append]
theorem gr_ge : ∀ (l : List Int) (a : Int), a ≤ GR a l
  | [], _ => Int.le_refl _
  | x :: l, a => by rw [gr_cons]; exact Int.le_trans (Int.le_max_left _ _) (gr_ge l _)

end Go.Proofs.Ytkcdmmegdhiabaa.Base
