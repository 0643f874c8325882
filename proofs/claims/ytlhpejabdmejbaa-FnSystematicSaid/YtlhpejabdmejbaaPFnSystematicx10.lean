/- Written by this session's program (wip/tool/xprint.py) over the kit's printer. -/
import Derived.Test.YtlhpejabdmejbaaPFnSystematicx0
import Derived.Test.YtlhpejabdmejbaaPFnSystematicx9
namespace Go.Proofs.Ytlhpejabdmejbaa.PFnSystematic
open Go.RowKit Go.Proofs.YtlhpejabdmejbaaW.PrintWords Go.Proofs.YtlhpejabdmejbaaW.PrintLast Go.Proofs.YtlhpejabdmejbaaW.PrintMore
attribute [local go_sem] max2_int min2_int max_two min_two max_three min_three max_four min_four   -- for this text's walks alone
set_option linter.unusedVariables false
set_option linter.unusedSimpArgs false

/-! ### spec_R8Order: function 58 -/
def spec_R8Order.f (k : Nat) (l0 : List Int) (a1 : Int) : Option (List Int) := (spec_l00From.f l0).bind fun bt294 => ((spec_l06DrawOrder.f k bt294.1 bt294.2.1 bt294.2.2 a1).bind fun bt298 => (some bt298.1))
theorem spec_R8Order.mono : ∀ a0 a1 k, LeO (spec_R8Order.f k a0 a1) (spec_R8Order.f (k + 1) a0 a1) := by
  intro a0 a1 k
  unfold spec_R8Order.f
  repeat' first | (with_reducible first | apply spec_l06DrawOrder.mono | exact LeO.refl _ | exact LeO.none _ | refine LeO.ite ?_ ?_ | refine LeO.bind ?_ (fun _ => ?_)) | apply spec_l06DrawOrder.mono | exact LeO.none _ | refine LeO.ite ?_ ?_ | refine LeO.bind ?_ (fun _ => ?_)
set_option maxHeartbeats 8000000 in
set_option maxRecDepth 100000 in
theorem spec_R8Order.calls (k : Nat) (A0 : Option Addr) (c0 : Nat) (l0 : List Int) (a1 : Int) (r : List Int) (w : World) (hr0 : Kd.C (Kd.int .u8) w A0 l0.length l0) (hc0 : l0.length ≤ c0) (h : spec_R8Order.f k l0 a1 = some r) :
    Calls Try.prog 58 #[.slice A0 l0.length c0, .int .i64 a1] w fun e w' => ∃ v0_ : Value, e = .returned (v0_) ∧ Kd.R (Kd.int .i64) 2 w' w.heap.size (fun _ => True) v0_ r ∧ Below w.heap.size w w' := by
 have HR0 := mA hr0; have HC0 := mA hc0; clear hr0 hc0; have HB := mA (Below.refl w.heap.size w); have H : ((spec_l00From.f l0).bind fun bt294 => ((spec_l06DrawOrder.f k bt294.1 bt294.2.1 bt294.2.2 a1).bind fun bt298 => (some bt298.1))) = some r := h; clear h; obtain ⟨⟨t294, t295, t296⟩, A3, H⟩ := sqB H; dsimp only at H; obtain ⟨⟨t298, t301, t302⟩, A4, H⟩ := sqB H; dsimp only at H; obtain rfl := Option.some.inj H; go_enter Try.func58, Try.ntmps58; go_wp2_with (first | (refine sqG 102 (some 7) Try.func102 #[.slice A0 l0.length c0] (h := ?_); (with_reducible refine (spec_l00From.calls _ _ l0 t294 t295 t296 w _ ?s1 ?s2 ?s3 A3.out).mono ?_); (case s1 => repeat (first | (with_reducible first | exact HB.out | apply below_alloc | apply pw_below_drewN | apply below_drew1) | exact HB.out)); (case s2 => exact HR0.out); (case s3 => exact HC0.out); rintro e w5 ⟨g297, rfl, hi, hb, hb2⟩; refine ⟨_, rfl, ?_⟩; replace HB := mA (hb); have HI297 := mA (hi); (try clear hb hb2 hi)) | (refine sqG 104 (some 10) Try.func104 #[.pointer (some ⟨g297, 0, none⟩), .int .i64 a1] (h := ?_); (with_reducible refine (spec_l06DrawOrder.calls k g297 t294 t295 t296 a1 t298 t301 t302 w _ ?s1 ?s2 A4.out).mono ?_); (case s1 => repeat (first | (with_reducible first | exact HI297.out | apply IsS120.alloc | apply IsS120.drewN | apply IsS120.drew | apply IsS120.set_1 | apply IsS120.set_2) | exact HI297.out)); (case s2 => repeat (first | (with_reducible first | exact HB.out | apply below_alloc | apply pw_below_drewN | apply below_drew1 | refine below_set ?_ (IsS120.ge HI297.out)) | exact HB.out)); rintro e w6 ⟨v299, rfl, ho0, hi, hb, hk⟩; refine ⟨_, rfl, ?_⟩; have HO300 := mA (Kd.R_lower ho0 (below_size (zq16 HI297))); replace HB := mA (hb); replace HI297 := mA (hi); (try clear hb hk hi ho0))); go_ret; exact ⟨_, zq5, zq2 HO300, zq16 HI297⟩

/-! ### laws_r8Abs: function 59 -/
def laws_r8Abs.f (a0 : Int) : Option (Int) := if a0 < 0 then (some (wrap64 (-a0))) else (some a0)
set_option maxHeartbeats 8000000 in
set_option maxRecDepth 100000 in
theorem laws_r8Abs.calls (a0 : Int) (r : Int) (w : World) (h : laws_r8Abs.f a0 = some r) :
    Calls Try.prog 59 #[.int .i64 a0] w fun e w' => e = .returned (.int .i64 r) ∧ Drawn0 w w' := by
 have H : (if a0 < 0 then (some (wrap64 (-a0))) else (some a0)) = some r := h; clear h; by_cases c2 : a0 < 0
 ·rw [if_pos c2] at H; replace c2 := decide_eq_true c2; obtain rfl := Option.some.inj H; go_enter Try.func59, Try.ntmps59; go_wp2; go_ret; exact ⟨zq3, zq7⟩
 rw [if_neg c2] at H; replace c2 := decide_eq_false c2; obtain rfl := Option.some.inj H; go_enter Try.func59, Try.ntmps59; go_wp2; go_ret; exact ⟨zq3, zq7⟩

end Go.Proofs.Ytlhpejabdmejbaa.PFnSystematic
