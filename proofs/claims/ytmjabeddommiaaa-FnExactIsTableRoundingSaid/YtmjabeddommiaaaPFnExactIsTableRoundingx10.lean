/- Written by this session's program (wip/tool/xprint.py) over the kit's printer. -/
import Derived.Test.YtmjabeddommiaaaPFnExactIsTableRoundingx0
import Derived.Test.YtmjabeddommiaaaPFnExactIsTableRoundingx7
namespace Go.Proofs.Ytmjabeddommiaaa.PFnExactIsTableRounding
open Go.RowKit Go.Proofs.YtmjabeddommiaaaW.PrintWords Go.Proofs.YtmjabeddommiaaaW.PrintLast Go.Proofs.YtmjabeddommiaaaW.PrintMore
attribute [local go_sem] max2_int min2_int max_two min_two max_three min_three max_four min_four   -- for this text's walks alone
set_option linter.unusedVariables false
set_option linter.unusedSimpArgs false

/-! ### impl_span_has: function 96 -/
def impl_span_has.f (a0_0 : Int) (a0_1 : Int) (a1 : Int) : Option (Bool) := (impl_within.f a1 a0_0 a0_1).bind fun t280 => (some t280)
set_option maxHeartbeats 8000000 in
set_option maxRecDepth 100000 in
theorem impl_span_has.calls (a0_0 : Int) (a0_1 : Int) (a1 : Int) (r : Bool) (w : World) (h : impl_span_has.f a0_0 a0_1 a1 = some r) :
    Calls Try.prog 96 #[.agg #[.int .i64 a0_0, .int .i64 a0_1], .int .i64 a1] w fun e w' => e = .returned (.bool r) ∧ Below w.heap.size w w' := by
 have hu64 := Try.underlying64; have HB := mA (Below.refl w.heap.size w); have H : ((impl_within.f a1 a0_0 a0_1).bind fun t280 => (some t280)) = some r := h; clear h; obtain ⟨t280, A3, H⟩ := sqB H; obtain rfl := Option.some.inj H; go_enter Try.func96, Try.ntmps96; go_wp2_with (first | (refine sqX 2 #[.int .i64 a0_0, .int .i64 a0_1] 64 ?_; intro gb279 hg w4 hbox hb; have BK279 := mA (hbox); have GW279 := mA ((z7 : w.heap.size ≤ gb279)); have GE279 := mA ((z7 : w.heap.size ≤ gb279)); replace HB := mA (below_step z4 hb); clear hb hbox hg; have hcz5_0 := sqZ0 BK279; have hcz5_1 := sqZ1 BK279; have hfz5_0 := blk_frozen BK279.out 0; have hfz5_1 := blk_frozen BK279.out 1) | (refine sqG 89 (some 10) Try.func89 #[.int .i64 a1, .int .i64 a0_0, .int .i64 a0_1] (h := ?_); (with_reducible refine (impl_within.calls a1 a0_0 a0_1 t280 _ A3.out).mono ?_); rintro e w' ⟨rfl, ⟨nd, rfl⟩⟩; refine ⟨_, rfl, ?_⟩)); go_ret; exact ⟨z6, z0⟩

end Go.Proofs.Ytmjabeddommiaaa.PFnExactIsTableRounding
