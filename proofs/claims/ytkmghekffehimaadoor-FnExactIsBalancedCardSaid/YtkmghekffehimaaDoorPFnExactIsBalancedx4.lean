/- Written by this session's program (wip/tool/xprint.py) over the kit's printer. -/
import Derived.Test.YtkmghekffehimaaDoorPFnExactIsBalancedx0
import Derived.Test.YtkmghekffehimaaDoorPFnExactIsBalancedx2
import Derived.Test.YtkmghekffehimaaDoorPFnExactIsBalancedx3
namespace Go.Proofs.YtkmghekffehimaaDoor.PFnExactIsBalanced
open Go.RowKit Go.Proofs.YtkmghekffehimaaDoorW.PrintWords Go.Proofs.YtkmghekffehimaaDoorW.PrintLast Go.Proofs.YtkmghekffehimaaDoorW.PrintMore
attribute [local go_sem] max2_int min2_int max_two min_two max_three min_three max_four min_four   -- for this text's walks alone
set_option linter.unusedVariables false
set_option linter.unusedSimpArgs false

/-! ### laws_FnExactIsBalanced: function 6 -/
def laws_FnExactIsBalanced.f (k : Nat) (a0 : ByteArray) : Option (Bool) := if (a0.size : Int) > 1048576 then (some true) else ((spec_IsBalanced.f k a0).bind fun t139 => ((impl_IsBalanced.f k a0).bind fun t140 => (if (t140 != t139) = true then (some false) else (some true))))
theorem laws_FnExactIsBalanced.mono : ∀ a0 k, LeO (laws_FnExactIsBalanced.f k a0) (laws_FnExactIsBalanced.f (k + 1) a0) := by
  intro a0 k
  unfold laws_FnExactIsBalanced.f
  repeat' first | (with_reducible first | apply impl_IsBalanced.mono | apply spec_IsBalanced.mono | exact LeO.refl _ | exact LeO.none _ | refine LeO.ite ?_ ?_ | refine LeO.bind ?_ (fun _ => ?_)) | apply impl_IsBalanced.mono | apply spec_IsBalanced.mono | exact LeO.none _ | refine LeO.ite ?_ ?_ | refine LeO.bind ?_ (fun _ => ?_)
set_option maxHeartbeats 8000000 in
set_option maxRecDepth 100000 in
theorem laws_FnExactIsBalanced.calls (k : Nat) (a0 : ByteArray) (r : Bool) (w : World) (h : laws_FnExactIsBalanced.f k a0 = some r) :
    Calls Tryd.prog 6 #[.string a0] w fun e w' => e = .returned (.bool r) ∧ Below w.heap.size w w' := by
 have HB := mA (Below.refl w.heap.size w); have H : (if (a0.size : Int) > 1048576 then (some true) else ((spec_IsBalanced.f k a0).bind fun t139 => ((impl_IsBalanced.f k a0).bind fun t140 => (if (t140 != t139) = true then (some false) else (some true))))) = some r := h; clear h; by_cases c2 : (a0.size : Int) > 1048576
 ·rw [if_pos c2] at H; have c2b0 := decide_eq_true c2; have c2b1 : decide (1048576 < a0.size) = true := decide_eq_true (by omega); clear c2; obtain rfl := Option.some.inj H; go_enter Tryd.func6, Tryd.ntmps6; go_wp2; go_ret; exact ⟨z4, z0⟩
 rw [if_neg c2] at H; have c2b0 := decide_eq_false c2; have c2b1 : decide (1048576 < a0.size) = false := decide_eq_false (by omega); clear c2; obtain ⟨t139, A3, H⟩ := sqB H; obtain ⟨t140, A4, H⟩ := sqB H; refine sqC ((t140 != t139) = true) (fun c5 => ?_) (fun c5 => ?_)
 ·rw [if_neg c5] at H
  have c5b0 : (t140 != t139) = false := by simpa using c5
  (try (have c5b1 : decide (t140 = t139) = true := by simpa using c5)); (try (have c5b2 : (t140 == t139) = true := by simpa using c5)); clear c5; obtain rfl := Option.some.inj H; go_enter Tryd.func6, Tryd.ntmps6; go_wp2_with (first | (refine sqG 20 (some 9) Tryd.func20 #[.string a0] (h := ?_); (with_reducible refine (spec_IsBalanced.calls k a0 t139 _ A3.out).mono ?_); rintro e w8 ⟨rfl, hb⟩; refine ⟨_, rfl, ?_⟩; replace HB := mA (below_step z0 hb); (try clear hb)) | (refine sqG 21 (some 11) Tryd.func21 #[.string a0] (h := ?_); (with_reducible refine (impl_IsBalanced.calls k a0 t140 _ A4.out).mono ?_); rintro e w9 ⟨rfl, hb⟩; refine ⟨_, rfl, ?_⟩; replace HB := mA (below_step z0 hb); (try clear hb))); go_ret; exact ⟨z4, z0⟩
 rw [if_pos c5] at H; have c5b0 : (t140 != t139) = true := c5; (try (have c5b1 : decide (t140 = t139) = false := by simpa using c5)); (try (have c5b2 : (t140 == t139) = false := by simpa using c5)); (try (have c5b3 : ¬ (t140 = t139) := by simpa using c5)); clear c5; obtain rfl := Option.some.inj H; go_enter Tryd.func6, Tryd.ntmps6; go_wp2_with (first | (refine sqG 20 (some 9) Tryd.func20 #[.string a0] (h := ?_); (with_reducible refine (spec_IsBalanced.calls k a0 t139 _ A3.out).mono ?_); rintro e w6 ⟨rfl, hb⟩; refine ⟨_, rfl, ?_⟩; replace HB := mA (below_step z0 hb); (try clear hb)) | (refine sqG 21 (some 11) Tryd.func21 #[.string a0] (h := ?_); (with_reducible refine (impl_IsBalanced.calls k a0 t140 _ A4.out).mono ?_); rintro e w7 ⟨rfl, hb⟩; refine ⟨_, rfl, ?_⟩; replace HB := mA (below_step z0 hb); (try clear hb))); go_ret; exact ⟨z4, z0⟩

/-- THE ONE PURE STATEMENT of laws_FnExactIsBalanced: yours. -/
def laws_FnExactIsBalanced.Pure : Prop := ∀ (a0 : ByteArray), a0.size ≤ 140737488351232 → ∃ k, laws_FnExactIsBalanced.f k a0 = some true
theorem laws_FnExactIsBalanced.walk (P : laws_FnExactIsBalanced.Pure) (a0 : ByteArray) (w : World) (w0 : a0.size ≤ 140737488351232) :
    Calls Tryd.prog 6 #[.string a0] w fun e w' => e = .returned (.bool true) ∧ Below w.heap.size w w' := by
 obtain ⟨k, h⟩ := P a0 w0; refine (laws_FnExactIsBalanced.calls k a0 true w h).mono ?_; rintro e w' ⟨rfl, hd⟩; exact ⟨rfl, hd⟩

end Go.Proofs.YtkmghekffehimaaDoor.PFnExactIsBalanced
