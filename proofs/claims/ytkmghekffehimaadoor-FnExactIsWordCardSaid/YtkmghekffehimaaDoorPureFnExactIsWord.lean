/- Proved: the pure half of the law FnExactIsWord: the printed functions answer true, for every input. No condition. -/
import Derived.Test.YtkmghekffehimaaDoorPFnExactIsWordx1
import Derived.Test.YtkmghekffehimaaDoorBase
import Derived.Test.YtkmghekffehimaaDoorLists
import Derived.Test.YtkmghekffehimaaDoorWords
namespace Go.Proofs.YtkmghekffehimaaDoor.Pure
open Go.RowKit Go.Proofs.YtkmghekffehimaaDoor.PFnExactIsWord Go.Proofs.YtkmghekffehimaaDoorW.PrintWords Go.Proofs.YtkmghekffehimaaDoorW.PrintLast Go.Proofs.YtkmghekffehimaaDoorW.PrintMore Go.Proofs.YtkmghekffehimaaDoor.Base
set_option linter.unusedVariables false
set_option linter.unusedSimpArgs false

/-! spec.l07Is -/
theorem sWORD_ev (s : ByteArray) (hs : s.size ≤ 1000000000000000) : Ev (fun k => spec_l07Is.f k s) (WORD s) := by
  unfold spec_l07Is.f WORD LET
  refine all_step s.size (fun i => decide (bt s (i : Int) = 97 ∨ bt s (i : Int) = 98)) (fun k i => spec_l07Is.l0 k s i) ?_ ?_
  · apply Ev.succ
    simp only [spec_l07Is.l0, if_neg (show ¬ (s.size : Int) < s.size by omega)]
    exact Ev.now _
  · intro i hi r hr
    apply Ev.succ
    simp only [spec_l07Is.l0, if_pos (show (i : Int) < s.size by omega), if_pos (show 0 ≤ (i : Int) by omega), inc hi (by omega)]
    by_cases c1 : bt s (i : Int) = 97
    · simp only [if_pos c1, decide_eq_true (show bt s (i : Int) = 97 ∨ bt s (i : Int) = 98 from .inl c1), Bool.true_and]
      exact hr
    · by_cases c2 : bt s (i : Int) = 98
      · simp only [if_neg c1, if_pos c2, decide_eq_true (show bt s (i : Int) = 97 ∨ bt s (i : Int) = 98 from .inr c2), Bool.true_and]
        exact hr
      · simp only [if_neg c1, if_neg c2, decide_eq_false (show ¬ (bt s (i : Int) = 97 ∨ bt s (i : Int) = 98) by omega), Bool.false_and]
        exact Ev.now _

/-! impl.IsWord -/
theorem iWORD_eq (s : ByteArray) : impl_IsWord.f s = some (WORD s) := by
  unfold impl_IsWord.f WORD
  by_cases h : (s.size : Int) ≤ 120
  · have e : (Go.Lib.trimS s.data.toList [97, 98] == ([] : List UInt8)) = LET s := by
      rw [Bool.eq_iff_iff, beq_iff_eq, trim_nil, let_iff]
    simp only [if_pos h, strings_Trim.f, decide_eq_true h, Bool.and_true]
    rw [if_pos ⟨by first | trivial | rfl, by omega⟩, Option.bind_some]
    simp only [toListD]
    rw [e]
  · simp only [if_neg h, decide_eq_false h, Bool.and_false]

/-! the law -/
theorem FnExactIsWord : laws_FnExactIsWord.Pure := by
  intro s hs
  apply Ev.rounds
  unfold laws_FnExactIsWord.f
  by_cases h : (s.size : Int) > 1048576
  · simp only [if_pos h]
    exact Ev.now _
  · simp only [if_neg h]
    unfold spec_IsWord.f
    refine Ev.bind (Ev.bind (sWORD_ev s (by omega)) (Ev.now _)) ?_
    simp only [iWORD_eq, Option.bind_some, bne_self_eq_false, Bool.false_eq_true, if_false]
    exact Ev.now _


end Go.Proofs.YtkmghekffehimaaDoor.Pure
