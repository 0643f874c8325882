/- Written by this session's program (wip/tool/xprint.py) over the kit's printer. -/
import Derived.Test.YtlhpejabdmejbaaPFnPermutationsx0
namespace Go.Proofs.Ytlhpejabdmejbaa.PFnPermutations
open Go.RowKit Go.Proofs.YtlhpejabdmejbaaW.PrintWords Go.Proofs.YtlhpejabdmejbaaW.PrintLast Go.Proofs.YtlhpejabdmejbaaW.PrintMore
attribute [local go_sem] max2_int min2_int max_two min_two max_three min_three max_four min_four   -- for this text's walks alone
set_option linter.unusedVariables false
set_option linter.unusedSimpArgs false

/-! ### laws_r8At: function 53 -/
def laws_r8At.f (l0 : List Int) (a1 : Int) (a2 : Int) : Option (Int) := if a2 ≤ 1 then (some 0) else (if a1 ≥ (l0.length : Int) then (some 0) else (if 0 ≤ a1 then (if a1 < (l0.length : Int) then (if a2 = 0 then (none) else (some (Int.tmod (wrap64 (rd l0 a1)) a2))) else (none)) else (none)))
set_option maxHeartbeats 8000000 in
set_option maxRecDepth 100000 in
theorem laws_r8At.calls (A0 : Option Addr) (c0 : Nat) (l0 : List Int) (a1 : Int) (a2 : Int) (r : Int) (w : World) (hr0 : Kd.C (Kd.int .u8) w A0 l0.length l0) (hc0 : l0.length ≤ c0) (h : laws_r8At.f l0 a1 a2 = some r) :
    Calls Try.prog 53 #[.slice A0 l0.length c0, .int .i64 a1, .int .i64 a2] w fun e w' => e = .returned (.int .i64 r) ∧ Drawn0 w w' := by
 have HR0 := mA hr0; have HC0 := mA hc0; clear hr0 hc0; have H : (if a2 ≤ 1 then (some 0) else (if a1 ≥ (l0.length : Int) then (some 0) else (if 0 ≤ a1 then (if a1 < (l0.length : Int) then (if a2 = 0 then (none) else (some (Int.tmod (wrap64 (rd l0 a1)) a2))) else (none)) else (none)))) = some r := h; clear h; by_cases c4 : a2 ≤ 1
 ·rw [if_pos c4] at H; have c4b0 : decide (a2 ≤ 1) = true := decide_eq_true c4; clear c4; obtain rfl := Option.some.inj H; go_enter Try.func53, Try.ntmps53; go_wp2; go_ret; exact ⟨zq2, zq8⟩
 rw [if_neg c4] at H; have c4b0 : decide (a2 ≤ 1) = false := decide_eq_false c4; clear c4; by_cases c5 : a1 ≥ (l0.length : Int)
 ·rw [if_pos c5] at H; have c5b0 : decide ((l0.length : Int) ≤ a1) = true := decide_eq_true c5; clear c5; obtain rfl := Option.some.inj H; go_enter Try.func53, Try.ntmps53; go_wp2; go_ret; exact ⟨zq2, zq8⟩
 rw [if_neg c5] at H; have c5b0 : decide ((l0.length : Int) ≤ a1) = false := decide_eq_false c5; clear c5; obtain ⟨c6, H⟩ := sqI H; replace c6 := decide_eq_true c6; obtain ⟨c7, H⟩ := sqI H; replace c7 := decide_eq_true c7; obtain ⟨c8, H⟩ := sqJ H; have c8b0 : (a2 == 0) = false := beq_eq_false_iff_ne.mpr c8; have c8b1 : (a2 != 0) = true := bne_iff_ne.mpr c8; obtain rfl := Option.some.inj H; have p279 : 0 ≤ (a1 : Int) := sqd; have q279 : a1 < (l0.length : Int) := sqd; obtain ⟨ad279, e279, hx279_0⟩ := Kd.at_int HR0.out a1 p279 q279
 cases e279
 replace p279 := eq_true p279; replace q279 := eq_true q279; go_enter Try.func53, Try.ntmps53; go_wp2; go_ret; exact ⟨zq2, zq8⟩

end Go.Proofs.Ytlhpejabdmejbaa.PFnPermutations
