/- Proved: the pure half of the law FnExactPeriodOf: the printed functions answer true, for every input. No condition. -/
import Derived.Test.YtkmghekffehimaaDoorPFnExactPeriodOfx2
import Derived.Test.YtkmghekffehimaaDoorBase
import Derived.Test.YtkmghekffehimaaDoorLists
import Derived.Test.YtkmghekffehimaaDoorWords
namespace Go.Proofs.YtkmghekffehimaaDoor.Pure
open Go.RowKit Go.Proofs.YtkmghekffehimaaDoor.PFnExactPeriodOf Go.Proofs.YtkmghekffehimaaDoorW.PrintWords Go.Proofs.YtkmghekffehimaaDoorW.PrintLast Go.Proofs.YtkmghekffehimaaDoorW.PrintMore Go.Proofs.YtkmghekffehimaaDoor.Base
set_option linter.unusedVariables false
set_option linter.unusedSimpArgs false

/-! spec.l07Is -/
theorem sWORD_ev (s : ByteArray) (hs : s.size ≤ 1000000000000000) : Ev (fun k => spec_l07Is.f k s) (WORD s) := by
  unfold spec_l07Is.f WORD LET
  refine all_step s.size (fun i => decide (bt s (i : Int) = 97 ∨ bt s (i : Int) = 98)) (fun k i => spec_l07Is.l0 k s i) ?_ ?_
  · apply Ev.succ
    simp only [spec_l07Is.l0, if_neg (show ¬ (s.size : Int) < s.size by omega)]
    exact Ev.now _
  · intro i hi r hr
    apply Ev.succ
    simp only [spec_l07Is.l0, if_pos (show (i : Int) < s.size by omega), if_pos (show 0 ≤ (i : Int) by omega), inc hi (by omega)]
    by_cases c1 : bt s (i : Int) = 97
    · simp only [if_pos c1, decide_eq_true (show bt s (i : Int) = 97 ∨ bt s (i : Int) = 98 from .inl c1), Bool.true_and]
      exact hr
    · by_cases c2 : bt s (i : Int) = 98
      · simp only [if_neg c1, if_pos c2, decide_eq_true (show bt s (i : Int) = 97 ∨ bt s (i : Int) = 98 from .inr c2), Bool.true_and]
        exact hr
      · simp only [if_neg c1, if_neg c2, decide_eq_false (show ¬ (bt s (i : Int) = 97 ∨ bt s (i : Int) = 98) by omega), Bool.false_and]
        exact Ev.now _

/-! spec.l00Max -/
theorem max_eq (a b : Int) : spec_l00Max.f a b = some (max a b) := by
  unfold spec_l00Max.f
  by_cases h : a > b
  · rw [if_pos h, Int.max_eq_left (by omega)]
  · rw [if_neg h, Int.max_eq_right (by omega)]

/-! impl.IsWord -/
theorem iWORD_eq (s : ByteArray) : impl_IsWord.f s = some (WORD s) := by
  unfold impl_IsWord.f WORD
  by_cases h : (s.size : Int) ≤ 120
  · have e : (Go.Lib.trimS s.data.toList [97, 98] == ([] : List UInt8)) = LET s := by
      rw [Bool.eq_iff_iff, beq_iff_eq, trim_nil, let_iff]
    simp only [if_pos h, strings_Trim.f, decide_eq_true h, Bool.and_true]
    rw [if_pos ⟨by first | trivial | rfl, by omega⟩, Option.bind_some]
    simp only [toListD]
    rw [e]
  · simp only [if_neg h, decide_eq_false h, Bool.and_false]

/-! the law -/
theorem per_both (s : ByteArray) (hs : s.size ≤ 120) : ∀ (d p : Nat), 1 ≤ p → (s.size ≤ p → p = max 1 s.size) → d + p = max 1 s.size → ∃ r : Int, Ev (fun k => spec_l07Period.l0 k s p) r ∧ Ev (fun k => impl_PeriodOf.l0 k s p) (r, true) := by
  intro d
  induction d with
  | zero =>
    intro p h1 h2 h3
    refine ⟨p, ?_, ?_⟩
    · apply Ev.succ
      simp only [spec_l07Period.l0, if_neg (show ¬ (p : Int) < s.size by omega), max_eq, Option.bind_some]
      exact (Ev.now _).to (by omega)
    · apply Ev.succ
      simp only [impl_PeriodOf.l0, if_neg (show ¬ (p : Int) < s.size by omega)]
      exact Ev.now _
  | succ d ih =>
    intro p h1 h2 h3
    have hp : p < s.size := by omega
    obtain ⟨r, hr, hr2⟩ := ih (p + 1) (by omega) (by omega) (by omega)
    have e1 : wrap64 ((s.size : Int) - p) = (s.size : Int) - p := w64 (by omega) (by omega)
    by_cases c : (s.extract (p : Int).toNat s.size).toList = (s.extract 0 ((s.size : Int) - p : Int).toNat).toList
    · refine ⟨p, ?_, ?_⟩
      · apply Ev.succ
        simp only [spec_l07Period.l0, if_pos (show (p : Int) < s.size by omega), if_pos (show 0 ≤ (p : Int) by omega), if_pos (show (p : Int) ≤ s.size by omega), e1, if_pos (show 0 ≤ (s.size : Int) - p by omega), if_pos (show (s.size : Int) - p ≤ s.size by omega), if_pos c]
        exact Ev.now _
      · apply Ev.succ
        simp only [impl_PeriodOf.l0, if_pos (show (p : Int) < s.size by omega), if_pos (show 0 ≤ (p : Int) by omega), if_pos (show (p : Int) ≤ s.size by omega), e1, if_pos (show 0 ≤ (s.size : Int) - p by omega), if_pos (show (s.size : Int) - p ≤ s.size by omega), if_pos c]
        exact Ev.now _
    · refine ⟨r, ?_, ?_⟩
      · apply Ev.succ
        simp only [spec_l07Period.l0, if_pos (show (p : Int) < s.size by omega), if_pos (show 0 ≤ (p : Int) by omega), if_pos (show (p : Int) ≤ s.size by omega), e1, if_pos (show 0 ≤ (s.size : Int) - p by omega), if_pos (show (s.size : Int) - p ≤ s.size by omega), if_neg c, inc hp (by omega)]
        exact hr
      · apply Ev.succ
        simp only [impl_PeriodOf.l0, if_pos (show (p : Int) < s.size by omega), if_pos (show 0 ≤ (p : Int) by omega), if_pos (show (p : Int) ≤ s.size by omega), e1, if_pos (show 0 ≤ (s.size : Int) - p by omega), if_pos (show (s.size : Int) - p ≤ s.size by omega), if_neg c, inc hp (by omega)]
        exact hr2
theorem FnExactPeriodOf : laws_FnExactPeriodOf.Pure := by
  intro s hs
  apply Ev.rounds
  unfold laws_FnExactPeriodOf.f
  by_cases h : (s.size : Int) > 1048576
  · simp only [if_pos h]
    exact Ev.now _
  · simp only [if_neg h]
    have key : ∃ r : Int × Bool, Ev (fun k => spec_PeriodOf.f k s) r ∧ Ev (fun k => impl_PeriodOf.f k s) r := by
      unfold spec_PeriodOf.f impl_PeriodOf.f
      simp only [iWORD_eq, Option.bind_some]
      cases hw : WORD s with
      | false =>
        refine ⟨(0, false), ?_, ?_⟩
        · refine Ev.bind (sWORD_ev s (by omega)) ?_
          simp only [hw, Bool.false_eq_true, if_false]
          exact Ev.now _
        · simp only [Bool.false_eq_true, if_false]
          exact Ev.now _
      | true =>
        obtain ⟨h1, _⟩ := word_facts hw
        obtain ⟨r, hr, hr2⟩ := per_both s h1 (max 1 s.size - 1) 1 (by omega) (by omega) (by omega)
        refine ⟨(r, true), ?_, ?_⟩
        · refine Ev.bind (sWORD_ev s (by omega)) ?_
          simp only [hw, if_true]
          unfold spec_l07Period.f
          exact Ev.bind hr (Ev.now _)
        · simp only [if_true]
          exact hr2
    obtain ⟨r, h1, h2⟩ := key
    refine Ev.bind h1 (Ev.bind h2 ?_)
    simp only [if_true, bne_self_eq_false, Bool.false_eq_true, if_false]
    exact Ev.now _


end Go.Proofs.YtkmghekffehimaaDoor.Pure
