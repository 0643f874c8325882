/- Written by this session's program (wip/tool/xprint.py) over the kit's printer. -/
import Derived.Test.YtdcglkdgepdnpaaPFnExactNearestTablex0
import Derived.Test.YtdcglkdgepdnpaaPFnExactNearestTablex4
namespace Go.Proofs.Ytdcglkdgepdnpaa.PFnExactNearestTable
open Go.RowKit Go.Proofs.YtdcglkdgepdnpaaW.PrintWords Go.Proofs.YtdcglkdgepdnpaaW.PrintLast Go.Proofs.YtdcglkdgepdnpaaW.PrintMore
attribute [local go_sem] max2_int min2_int max_two min_two max_three min_three max_four min_four   -- for this text's walks alone
set_option linter.unusedVariables false
set_option linter.unusedSimpArgs false

/-! ### spec_l05Round: function 41 -/
def spec_l05Round.f (a0 : Int) (a1 : Int) (a2 : Int) : Option (Bool) := (spec_l01Floor.f a1 a2).bind fun t177 => (if a0 = t177 then (some true) else ((spec_l01Ceil.f a1 a2).bind fun t178 => (some (a0 == t178))))
set_option maxHeartbeats 8000000 in
set_option maxRecDepth 100000 in
theorem spec_l05Round.calls (a0 : Int) (a1 : Int) (a2 : Int) (r : Bool) (w : World) (h : spec_l05Round.f a0 a1 a2 = some r) :
    Calls Try.prog 41 #[.int .i64 a0, .int .i64 a1, .int .i64 a2] w fun e w' => e = .returned (.bool r) ∧ Drawn0 w w' := by
 have H : ((spec_l01Floor.f a1 a2).bind fun t177 => (if a0 = t177 then (some true) else ((spec_l01Ceil.f a1 a2).bind fun t178 => (some (a0 == t178))))) = some r := h; clear h; obtain ⟨t177, A4, H⟩ := sqB H; by_cases c5 : a0 = t177
 ·rw [if_pos c5] at H; have c5b0 : (a0 == t177) = true := beq_iff_eq.mpr c5; have c5b1 : (a0 != t177) = false := bne_eq_false_iff_eq.mpr c5; clear c5; obtain rfl := Option.some.inj H; go_enter Try.func41, Try.ntmps41; go_wp2_with (first | (refine sqG 37 (some 10) Try.func37 #[.int .i64 a1, .int .i64 a2] (h := ?_); (with_reducible refine (spec_l01Floor.calls a1 a2 t177 _ A4.out).mono ?_); rintro e w' ⟨rfl, ⟨nd, rfl⟩⟩; refine ⟨_, rfl, ?_⟩)); go_ret; exact ⟨zq4, zq10⟩
 rw [if_neg c5] at H; have c5b0 : (a0 == t177) = false := beq_eq_false_iff_ne.mpr c5; have c5b1 : (a0 != t177) = true := bne_iff_ne.mpr c5; obtain ⟨t178, A6, H⟩ := sqB H; obtain rfl := Option.some.inj H; go_enter Try.func41, Try.ntmps41; go_wp2_with (first | (refine sqG 37 (some 10) Try.func37 #[.int .i64 a1, .int .i64 a2] (h := ?_); (with_reducible refine (spec_l01Floor.calls a1 a2 t177 _ A4.out).mono ?_); rintro e w' ⟨rfl, ⟨nd, rfl⟩⟩; refine ⟨_, rfl, ?_⟩) | (go_at_call 38; (with_reducible refine (spec_l01Ceil.calls a1 a2 t178 _ A6.out).mono ?_); rintro e w' ⟨rfl, ⟨nd, rfl⟩⟩)); go_ret; exact ⟨zq4, zq10⟩

end Go.Proofs.Ytdcglkdgepdnpaa.PFnExactNearestTable
