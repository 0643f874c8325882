/- Proved: the row of the law FnExactSumWeights: for every input it answers true, and what came in reads as before. No condition. Written by this session's program. -/
import Derived.Test.YtlhpejabdmejbaaRows
import Derived.Test.YtlhpejabdmejbaaPFnExactSumWeightsx11
import Derived.Test.YtlhpejabdmejbaaPureFnExactSumWeights
import Derived.Test.YtlhpejabdmejbaaRw
import Derived.WalkKit
import Derived.ProofKit
import Derived.OpenShut
import Derived.ShutString
import Derived.ChangeOld
import Derived.Below
import Derived.SizedLaws
import Derived.Lib.SmallJoins
namespace Go.Proofs.Ytlhpejabdmejbaa.fnExactSumWeights
open Go.ChangeShapes Go.WideShapes Go.ChangeAt Go.RowKit
open Go.ChangeMaps (open_string shut_string)
set_option linter.unusedVariables false
theorem own : ownKnob Try.prog.godebug = none := by kernel_rfl
theorem laidOut : laidOutB Try.prog = true := by kernel_rfl
set_option maxRecDepth 100000 in
theorem lifted (os : Os) (started : os.Started) (H : Type) (enc : TypeId × Value → H) :
    ReturnsInHanded {} Try.checked os 9 .any (Rows.fnExactSumWeightsSpec.pre6 enc Try.prog Try.f9 Rows.fnExactSumWeightsRow.domain false) (Rows.fnExactSumWeightsSpec.post enc Try.prog Try.f9 false true false false) := by
  refine returnsInHanded_of_change_sized (C := Try.checked) own started (by kernel_rfl) Try.func9
    (ChangeSpec.witness6 (enc := enc) (C := Try.checked) false ⟨#[], #[.agg #[.slice none 0 0, .slice none 0 0]], []⟩ 8 (by kernel_rfl) (by kernel_rfl) (by kernel_rfl) (by kernel_rfl)) ?_
  intro W base args ds gs before hval0 hW hcnd hsz0 _
  have hsz : (DataW.weightsEach Try.prog (Try.f9.params.toList ++ Rows.fnExactSumWeightsSpec.plain.varTypes Try.prog) (ds ++ gs)).all (· ≤ reachBytes) = true := hsz0
  have hval : ∀ (j : Nat) t v, Try.f9.params[j]? = some t → args[j]? = some v → Value.okWide Try.prog W .any base t v := hval0
  have hW' := hW
  obtain ⟨p, q, hA0, hV, rfl, hfz, hnd⟩ := hW
  have hA : DataW.TrodAll enc Try.prog W 0 (fun _ => true) true Try.f9.params.toList args.toList ds p := hA0
  rw [Try.params9] at hA hval hsz
  obtain ⟨v0, vs0, d0, ds0, p0, q0, hargs, rfl, rfl, h0, r0⟩ := trodAll_cons hA
  obtain ⟨rfl, rfl, rfl⟩ := trodAll_nil r0
  obtain rfl : args = #[v0] := by cases args; simp_all
  obtain ⟨rfl, rfl⟩ := trodVars_none hV
  have k0 := h0
  have lt0 : ∀ x ∈ p0, x.block < W.heap.size := by obtain ⟨m, hm⟩ := k0; exact DataW.trod_lt m _ _ _ hm
  obtain ⟨u0_0, u0_1, y0_0, y0_1, m0, rfl, rfl, rfl, g0_0, g0_1⟩ := Joins.open_agg2 Try.underlying25 (by kernel_rfl) (by kernel_rfl) (hval 0 25 v0 rfl rfl) h0
  obtain ⟨A0_0, c0_0, l0_0, rfl, o0_0⟩ := Rw.ints_cells Try.underlying22 Try.underlying2 (by kernel_rfl) g0_0
  obtain ⟨A0_1, c0_1, l0_1, rfl, o0_1⟩ := Rw.rows_cells Try.underlying23 Try.underlying22 Try.underlying2 (by kernel_rfl) (by kernel_rfl) g0_1
  clear hA0 hval0 hsz0 hsz
  obtain ⟨k, hk⟩ := Pure.FnExactSumWeights l0_0 l0_1 o0_0.2.2.1 o0_0.2.2.2 o0_1.2.2.1 o0_1.2.2.2
  refine (PFnExactSumWeights.laws_FnExactSumWeights.calls k A0_0 c0_0 l0_0 A0_1 c0_1 l0_1 true W o0_0.1 o0_0.2.1 o0_1.1 o0_1.2.1 hk).mono fun e W' ⟨he, bel⟩ => ?_
  subst he
  exact ⟨_, rfl, _, _, _, [], _, [], hW', trodAll_mk1 (shut_bool Try.underlying4 _), (trodAll_cons_mk (Below.trod laidOut (by kernel_rfl) (of_decide_eq_true (by kernel_rfl)) k0 bel lt0) trodAll_mk0), rfl, bel.frame _, fun h => by cases h⟩
theorem over : Rows.fnExactSumWeightsRow.holds Try.pinned (OpenSpec.ofChange Rows.fnExactSumWeightsSpec) :=
  OpenClaim.holds_of_wide 9 Try.f9 rfl rfl rfl rfl rfl rfl rfl ⟨rfl, rfl, rfl, rfl, rfl⟩ rfl rfl rfl rfl rfl (by kernel_rfl) Try.func9 (by kernel_rfl)
    (of_decide_eq_true (by kernel_rfl)) (by unfold Func.isWrapper; first | (rw [if_pos (by decide +kernel)]; kernel_rfl) | (rw [if_neg (by decide +kernel)]; exact ⟨rfl, rfl⟩))
    (fun os started H enc _ => lifted os started H enc)
theorem proved : Rows.FnExactSumWeightsSaid := over
#print axioms proved
end Go.Proofs.Ytlhpejabdmejbaa.fnExactSumWeights
namespace Go.Proofs.Ytlhpejabdmejbaa
/-- The row, under a short name, for the claim. -/
theorem fnExactSumWeights_holds : Rows.FnExactSumWeightsSaid := fnExactSumWeights.proved
end Go.Proofs.Ytlhpejabdmejbaa
