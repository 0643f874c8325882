/- Plain lemmas: what the greatest absolute value is. No condition. -/
import Derived.Test.YtkcdmmegdhiabaaGreat
namespace Go.Proofs.Ytkcdmmegdhiabaa.Base
open Go.RowKit Go.Proofs.YtkcdmmegdhiabaaW.PrintWords Go.Proofs.YtkcdmmegdhiabaaW.PrintLast Go.Proofs.YtkcdmmegdhiabaaW.PrintMore
set_option linter.unusedVariables false
set_option linter.unusedSimpArgs false
theorem gr_spec : ∀ (l : List Int) (a : Int), (∀ x ∈ l, -1000000000 ≤ x ∧ x ≤ 1000000000) → 0 ≤ a → (∀ x ∈ l, -(GR a l) ≤ x ∧ x ≤ GR a l) ∧ a ≤ GR a l ∧ (GR a l = a ∨ ∃ x ∈ l, x = GR a l ∨ -x = GR a l)
  | [], a, _, _ => ⟨fun x hx => by simp at hx, Int.le_refl _, .inl rfl⟩
  | x :: l, a, h, h0 => by
    have hx := h x List.mem_cons_self
    have e : max a (max x (wrap64 (-x))) = max a (max x (-x)) := by rw [w64 (by omega) (by omega)]
    obtain ⟨i1, i2, i3⟩ := gr_spec l (max a (max x (-x))) (fun y hy => h y (List.mem_cons_of_mem _ hy)) (by omega)
    rw [gr_cons, e]
    clear e
    have q1 := Int.le_max_left x (-x)
    have q2 := Int.le_max_right x (-x)
    have q3 : max x (-x) = x ∨ max x (-x) = -x := by rw [Int.max_def]; split <;> simp
    generalize max x (-x) = u at *
    have q4 := Int.le_max_left a u
    have q5 := Int.le_max_right a u
    have q6 : max a u = a ∨ max a u = u := by rw [Int.max_def]; split <;> simp
    generalize max a u = v at *
    refine ⟨fun y hy => ?_, Int.le_trans q4 i2, ?_⟩
    · clear i3
      rcases List.mem_cons.1 hy with hy | hy
      · rw [hy]; omega
      · exact i1 y hy
    · rcases i3 with i3 | ⟨y, hy, hy2⟩
      · rw [i3]
        rcases q6 with q6 | q6
        · exact .inl q6
        · rcases q3 with q3 | q3
          · exact .inr ⟨x, List.mem_cons_self, .inl (by omega)⟩
          · exact .inr ⟨x, List.mem_cons_self, .inr (by omega)⟩
      · exact .inr ⟨y, List.mem_cons_of_mem _ hy, hy2⟩
end Go.Proofs.Ytkcdmmegdhiabaa.Base
