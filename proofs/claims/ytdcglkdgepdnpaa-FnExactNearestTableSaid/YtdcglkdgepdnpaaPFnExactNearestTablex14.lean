/- Written by this session's program (wip/tool/xprint.py) over the kit's printer. -/
import Derived.Test.YtdcglkdgepdnpaaPFnExactNearestTablex0
import Derived.Test.YtdcglkdgepdnpaaPFnExactNearestTablex10
namespace Go.Proofs.Ytdcglkdgepdnpaa.PFnExactNearestTable
open Go.RowKit Go.Proofs.YtdcglkdgepdnpaaW.PrintWords Go.Proofs.YtdcglkdgepdnpaaW.PrintLast Go.Proofs.YtdcglkdgepdnpaaW.PrintMore
attribute [local go_sem] max2_int min2_int max_two min_two max_three min_three max_four min_four   -- for this text's walks alone
set_option linter.unusedVariables false
set_option linter.unusedSimpArgs false

/-! ### impl_span_has: function 63 -/
def impl_span_has.f (a0_0 : Int) (a0_1 : Int) (a1 : Int) : Option (Bool) := (impl_within.f a1 a0_0 a0_1).bind fun t333 => (some t333)
set_option maxHeartbeats 8000000 in
set_option maxRecDepth 100000 in
theorem impl_span_has.calls (a0_0 : Int) (a0_1 : Int) (a1 : Int) (r : Bool) (w : World) (h : impl_span_has.f a0_0 a0_1 a1 = some r) :
    Calls Try.prog 63 #[.agg #[.int .i64 a0_0, .int .i64 a0_1], .int .i64 a1] w fun e w' => e = .returned (.bool r) ∧ Below w.heap.size w w' := by
 have hu62 := Try.underlying62; have HB := mA (Below.refl w.heap.size w); have H : ((impl_within.f a1 a0_0 a0_1).bind fun t333 => (some t333)) = some r := h; clear h; obtain ⟨t333, A3, H⟩ := sqB H; obtain rfl := Option.some.inj H; go_enter Try.func63, Try.ntmps63; go_wp2_with (first | (refine sqX 2 #[.int .i64 a0_0, .int .i64 a0_1] 62 ?_; intro gb332 hg w4 hbox hb; have BK332 := mA (hbox); have GW332 := mA ((zq9 : w.heap.size ≤ gb332)); have GE332 := mA ((zq9 : w.heap.size ≤ gb332)); replace HB := mA (below_step zq3 hb); clear hb hbox hg; obtain ⟨hcz5_0, hfz5_0⟩ := sqW0 BK332; obtain ⟨hcz5_1, hfz5_1⟩ := sqW1 BK332) | (refine sqG 52 (some 10) Try.func52 #[.int .i64 a1, .int .i64 a0_0, .int .i64 a0_1] (h := ?_); (with_reducible refine (impl_within.calls a1 a0_0 a0_1 t333 _ A3.out).mono ?_); rintro e w' ⟨rfl, ⟨nd, rfl⟩⟩; refine ⟨_, rfl, ?_⟩)); go_ret; exact ⟨zq6, zq1⟩

end Go.Proofs.Ytdcglkdgepdnpaa.PFnExactNearestTable
