/- Proved: the row of the law FnExactPermutationMixture: for every input it answers true, and what came in reads as before. No condition. Written by this session's program. -/
import Derived.Test.YtlhpejabdmejbaaRows
import Derived.Test.YtlhpejabdmejbaaPFnExactPermutationMixturex12
import Derived.Test.YtlhpejabdmejbaaPureFnExactPermutationMixture
import Derived.Test.YtlhpejabdmejbaaRw
import Derived.WalkKit
import Derived.ProofKit
import Derived.OpenShut
import Derived.ShutString
import Derived.ChangeOld
import Derived.Below
import Derived.SizedLaws
import Derived.Lib.SmallJoins
namespace Go.Proofs.Ytlhpejabdmejbaa.fnExactPermutationMixture
open Go.ChangeShapes Go.WideShapes Go.ChangeAt Go.RowKit
open Go.ChangeMaps (open_string shut_string)
set_option linter.unusedVariables false
theorem own : ownKnob Try.prog.godebug = none := by kernel_rfl
theorem laidOut : laidOutB Try.prog = true := by kernel_rfl
set_option maxRecDepth 100000 in
theorem lifted (os : Os) (started : os.Started) (H : Type) (enc : TypeId × Value → H) :
    ReturnsInHanded {} Try.checked os 7 .any (Rows.fnExactPermutationMixtureSpec.pre6 enc Try.prog Try.f7 Rows.fnExactPermutationMixtureRow.domain false) (Rows.fnExactPermutationMixtureSpec.post enc Try.prog Try.f7 false true false false) := by
  refine returnsInHanded_of_change_sized (C := Try.checked) own started (by kernel_rfl) Try.func7
    (ChangeSpec.witness6 (enc := enc) (C := Try.checked) false ⟨#[], #[.slice none 0 0], []⟩ 8 (by kernel_rfl) (by kernel_rfl) (by kernel_rfl) (by kernel_rfl)) ?_
  intro W base args ds gs before hval0 hW hcnd hsz0 _
  have hsz : (DataW.weightsEach Try.prog (Try.f7.params.toList ++ Rows.fnExactPermutationMixtureSpec.plain.varTypes Try.prog) (ds ++ gs)).all (· ≤ reachBytes) = true := hsz0
  have hval : ∀ (j : Nat) t v, Try.f7.params[j]? = some t → args[j]? = some v → Value.okWide Try.prog W .any base t v := hval0
  have hW' := hW
  obtain ⟨p, q, hA0, hV, rfl, hfz, hnd⟩ := hW
  have hA : DataW.TrodAll enc Try.prog W 0 (fun _ => true) true Try.f7.params.toList args.toList ds p := hA0
  rw [Try.params7] at hA hval hsz
  obtain ⟨v0, vs0, d0, ds0, p0, q0, hargs, rfl, rfl, h0, r0⟩ := trodAll_cons hA
  obtain ⟨rfl, rfl, rfl⟩ := trodAll_nil r0
  obtain rfl : args = #[v0] := by cases args; simp_all
  obtain ⟨rfl, rfl⟩ := trodVars_none hV
  have k0 := h0
  have lt0 : ∀ x ∈ p0, x.block < W.heap.size := by obtain ⟨m, hm⟩ := k0; exact DataW.trod_lt m _ _ _ hm
  obtain ⟨a0, len0, cap0, rfl⟩ := okWide_slice Try.underlying23 (hval 0 23 v0 rfl rfl)
  obtain ⟨fuel0, hf0⟩ := h0
  have hf0' : DataW.trod enc Try.prog W 0 (fun _ => true) true fuel0 23 [.slice a0 len0 cap0] = some (d0, p0) := by simpa [Value.cells] using hf0
  obtain ⟨A0, c0, l0, e0, o0⟩ := Rw.rows_cells Try.underlying23 Try.underlying22 Try.underlying2 (by kernel_rfl) (by kernel_rfl) hf0'
  injection e0 with e0a e0b e0c
  replace e0a := e0a.symm
  replace e0c := e0c.symm
  subst e0a e0b e0c
  clear hA0 hval0 hsz0 hsz
  obtain ⟨k, hk⟩ := Pure.FnExactPermutationMixture l0 o0.2.2.1 o0.2.2.2
  refine (PFnExactPermutationMixture.laws_FnExactPermutationMixture.calls k A0 c0 l0 true W o0.1 o0.2.1 hk).mono fun e W' ⟨he, bel⟩ => ?_
  subst he
  exact ⟨_, rfl, _, _, _, [], _, [], hW', trodAll_mk1 (shut_bool Try.underlying4 _), (trodAll_cons_mk (Below.trod laidOut (by kernel_rfl) (of_decide_eq_true (by kernel_rfl)) k0 bel lt0) trodAll_mk0), rfl, bel.frame _, fun h => by cases h⟩
theorem over : Rows.fnExactPermutationMixtureRow.holds Try.pinned (OpenSpec.ofChange Rows.fnExactPermutationMixtureSpec) :=
  OpenClaim.holds_of_wide 7 Try.f7 rfl rfl rfl rfl rfl rfl rfl ⟨rfl, rfl, rfl, rfl, rfl⟩ rfl rfl rfl rfl rfl (by kernel_rfl) Try.func7 (by kernel_rfl)
    (of_decide_eq_true (by kernel_rfl)) (by unfold Func.isWrapper; first | (rw [if_pos (by decide +kernel)]; kernel_rfl) | (rw [if_neg (by decide +kernel)]; exact ⟨rfl, rfl⟩))
    (fun os started H enc _ => lifted os started H enc)
theorem proved : Rows.FnExactPermutationMixtureSaid := over
#print axioms proved
end Go.Proofs.Ytlhpejabdmejbaa.fnExactPermutationMixture
namespace Go.Proofs.Ytlhpejabdmejbaa
/-- The row, under a short name, for the claim. -/
theorem fnExactPermutationMixture_holds : Rows.FnExactPermutationMixtureSaid := fnExactPermutationMixture.proved
end Go.Proofs.Ytlhpejabdmejbaa
