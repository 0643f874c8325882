/- Written by this session's program (wip/tool/xprint.py) over the kit's printer. -/
import Derived.Test.YtlhpejabdmejbaaPFnExactIsMixtureOfx0
import Derived.Test.YtlhpejabdmejbaaPFnExactIsMixtureOfx2
namespace Go.Proofs.Ytlhpejabdmejbaa.PFnExactIsMixtureOf
open Go.RowKit Go.Proofs.YtlhpejabdmejbaaW.PrintWords Go.Proofs.YtlhpejabdmejbaaW.PrintLast Go.Proofs.YtlhpejabdmejbaaW.PrintMore
attribute [local go_sem] max2_int min2_int max_two min_two max_three min_three max_four min_four   -- for this text's walks alone
set_option linter.unusedVariables false
set_option linter.unusedSimpArgs false

/-! ### spec_l01Is: function 74 -/
def spec_l01Is.l0 : Nat → Int → Int → List Int → Option (Bool)
  | 0, _, _, _ => none
  | k + 1, x3, x41000, x41001 => if x3 < (x41001.length : Int) then (if 0 ≤ x3 then ((spec_l00In.f (rd x41001 x3) (-1000000) 1000000).bind fun t156 => (if t156 = true then (spec_l01Is.l0 k (wrap64 (x3 + 1)) x41000 x41001) else (some false))) else (none)) else ((spec_l00In.f x41000 1 1000).bind fun t157 => (if t157 = true then (some (decide ((x41001.length : Int) ≤ 40))) else (some false)))
def spec_l01Is.f (k : Nat) (a0_0 : Int) (l0_1 : List Int) : Option (Bool) := spec_l01Is.l0 k 0 a0_0 l0_1
theorem spec_l01Is.mono_l : ∀ k, (∀ y0 y1 y2, LeO (spec_l01Is.l0 k y0 y1 y2) (spec_l01Is.l0 (k + 1) y0 y1 y2))
  | 0 => fun _ _ _ r h => by simp [spec_l01Is.l0] at h
  | k + 1 => by
   have ih0 := spec_l01Is.mono_l k
   intros
   unfold spec_l01Is.l0
   all_goals repeat' first | (with_reducible first | apply ih0 | exact LeO.refl _ | exact LeO.none _ | refine LeO.ite ?_ ?_ | refine LeO.bind ?_ (fun _ => ?_)) | apply ih0 | exact LeO.none _ | refine LeO.ite ?_ ?_ | refine LeO.bind ?_ (fun _ => ?_)
theorem spec_l01Is.mono : ∀ a0 a1 k, LeO (spec_l01Is.f k a0 a1) (spec_l01Is.f (k + 1) a0 a1) := by
  intro a0 a1 k
  have ih0 := spec_l01Is.mono_l k
  unfold spec_l01Is.f
  repeat' first | (with_reducible first | apply ih0 | exact LeO.refl _ | exact LeO.none _ | refine LeO.ite ?_ ?_ | refine LeO.bind ?_ (fun _ => ?_)) | apply ih0 | exact LeO.none _ | refine LeO.ite ?_ ?_ | refine LeO.bind ?_ (fun _ => ?_)
set_option maxHeartbeats 8000000 in
set_option maxRecDepth 100000 in
theorem spec_l01Is.calls (k : Nat) (gv0_0_ : Nat) (a0_0 : Int) (A0_1 : Option Addr) (c0_1 : Nat) (l0_1 : List Int) (r : Bool) (w : World) (hbx0_0_ : w.heap[gv0_0_]? = some (.cells #[.int .i64 a0_0, .slice A0_1 l0_1.length c0_1] 43 (0, 0))) (hr0_1 : Kd.C (Kd.int .i64) w A0_1 l0_1.length l0_1) (hc0_1 : l0_1.length ≤ c0_1) (h : spec_l01Is.f k a0_0 l0_1 = some r) :
    Calls Try.prog 74 #[.pointer (some ⟨gv0_0_, 0, none⟩)] w fun e w' => e = .returned (.bool r) ∧ Below w.heap.size w w' := by
 have HR0_1 := mA hr0_1; have HC0_1 := mA hc0_1; clear hr0_1 hc0_1; have BK40 := mA hbx0_0_; clear hbx0_0_; have HB := mA (Below.refl w.heap.size w); have H : (spec_l01Is.l0 k 0 a0_0 l0_1) = some r := h; clear h; have H' := mA H; clear H; go_enter Try.func74, Try.ntmps74; go_wp2; go_loopg [3] k (fun kq v3 w' => ∃ (x3_1 : Int), v3 = .int .i64 x3_1 ∧ Aside0 (spec_l01Is.l0 kq x3_1 a0_0 l0_1 = some r) ∧ Aside0 (kq ≤ k) ∧ Aside0 (w'.heap[gv0_0_]? = some (.cells #[.int .i64 a0_0, (.slice A0_1 l0_1.length c0_1)] 43 (0, 0))) ∧ Aside0 (Below w.heap.size w w'))
 case atStart => exact ⟨(0), z3, H', ⟨Nat.le_refl _⟩, ⟨z1 BK40⟩, ⟨z0⟩⟩
 case round =>
  clear H'; obtain ⟨x3_1, rfl, HA, HK1, BK40, HB⟩ := hrel
  cases gk with
  | zero => exact absurd HA.out (by simp [spec_l01Is.l0])
  | succ k1 =>
   have H := HA.out; clear HA; simp only [spec_l01Is.l0] at H; refine sqC (x3_1 < (l0_1.length : Int)) (fun c2 => ?_) (fun c2 => ?_)
   ·rw [if_neg c2] at H; replace c2 := decide_eq_false c2; obtain ⟨t157, A8, H⟩ := sqB H; by_cases c9 : t157 = true
    ·subst c9; rw [if_pos rfl] at H; obtain rfl := Option.some.inj H; have hcz10_0 := sqZ0 BK40; have hcz10_1 := sqZ1 BK40; have hfz10_0 := blk_frozen BK40.out 0; have hfz10_1 := blk_frozen BK40.out 1; go_wp2_with (first | (refine sqG 63 (some 26) Try.func63 #[.int .i64 a0_0, .int .i64 1, .int .i64 1000] (h := ?_); (with_reducible refine (spec_l00In.calls a0_0 1 1000 true _ A8.out).mono ?_); rintro e w' ⟨rfl, ⟨nd, rfl⟩⟩; refine ⟨_, rfl, ?_⟩)); go_ret; exact ⟨z5, z0⟩
    replace c9 := Bool.eq_false_iff.mpr c9; subst c9; rw [if_neg (show ¬ (false = true) by decide)] at H; obtain rfl := Option.some.inj H; have hcz11_0 := sqZ0 BK40; have hcz11_1 := sqZ1 BK40; have hfz11_0 := blk_frozen BK40.out 0; have hfz11_1 := blk_frozen BK40.out 1; go_wp2_with (first | (refine sqG 63 (some 26) Try.func63 #[.int .i64 a0_0, .int .i64 1, .int .i64 1000] (h := ?_); (with_reducible refine (spec_l00In.calls a0_0 1 1000 false _ A8.out).mono ?_); rintro e w' ⟨rfl, ⟨nd, rfl⟩⟩; refine ⟨_, rfl, ?_⟩)); go_ret; exact ⟨z5, z0⟩
   rw [if_pos c2] at H; replace c2 := decide_eq_true c2; obtain ⟨c3, H⟩ := sqI H; replace c3 := decide_eq_true c3; obtain ⟨t156, A4, H⟩ := sqB H; refine sqC (t156 = true) (fun c5 => ?_) (fun c5 => ?_)
   ·replace c5 := Bool.eq_false_iff.mpr c5; subst c5; rw [if_neg (show ¬ (false = true) by decide)] at H; obtain rfl := Option.some.inj H; have hcz7_0 := sqZ0 BK40; have hcz7_1 := sqZ1 BK40; have hfz7_0 := blk_frozen BK40.out 0; have hfz7_1 := blk_frozen BK40.out 1; have p155 : 0 ≤ (x3_1 : Int) := sqd; have q155 : x3_1 < (l0_1.length : Int) := sqd; obtain ⟨ad155, e155, hx155_0⟩ := Kd.at_int HR0_1.out x3_1 p155 q155
    cases e155
    replace hx155_0 := sqh HB hx155_0; replace p155 := eq_true p155; replace q155 := eq_true q155; go_wp2_with (first | (refine sqG 63 (some 20) Try.func63 #[.int .i64 (rd l0_1 x3_1), .int .i64 (-1000000), .int .i64 1000000] (h := ?_); (with_reducible refine (spec_l00In.calls (rd l0_1 x3_1) (-1000000) 1000000 false _ A4.out).mono ?_); rintro e w' ⟨rfl, ⟨nd, rfl⟩⟩; refine ⟨_, rfl, ?_⟩)); go_ret; exact ⟨z5, z0⟩
   subst c5; rw [if_pos rfl] at H; have H' := mA H; clear H; have hcz6_0 := sqZ0 BK40; have hcz6_1 := sqZ1 BK40; have hfz6_0 := blk_frozen BK40.out 0; have hfz6_1 := blk_frozen BK40.out 1; have p155 : 0 ≤ (x3_1 : Int) := sqd; have q155 : x3_1 < (l0_1.length : Int) := sqd; obtain ⟨ad155, e155, hx155_0⟩ := Kd.at_int HR0_1.out x3_1 p155 q155
   cases e155
   replace hx155_0 := sqh HB hx155_0; replace p155 := eq_true p155; replace q155 := eq_true q155; go_wp2_with (first | (refine sqG 63 (some 20) Try.func63 #[.int .i64 (rd l0_1 x3_1), .int .i64 (-1000000), .int .i64 1000000] (h := ?_); (with_reducible refine (spec_l00In.calls (rd l0_1 x3_1) (-1000000) 1000000 true _ A4.out).mono ?_); rintro e w' ⟨rfl, ⟨nd, rfl⟩⟩; refine ⟨_, rfl, ?_⟩)); go_roundg k1
   case measure => have := HK1.out; omega
   case rel => exact ⟨(wrap64 (x3_1 + 1)), z3, H', ⟨by have := HK1.out; omega⟩, ⟨z1 BK40⟩, ⟨z0⟩⟩

/-! ### spec_l01Floor: function 116 -/
def spec_l01Floor.f (a0 : Int) (a1 : Int) : Option (Int) := if a1 = 0 then (none) else (if (wrap64 ((wrap64 (Int.tdiv a0 a1)) * a1)) > a0 then (some (wrap64 ((wrap64 (Int.tdiv a0 a1)) - 1))) else (some (wrap64 (Int.tdiv a0 a1))))
set_option maxHeartbeats 8000000 in
set_option maxRecDepth 100000 in
theorem spec_l01Floor.calls (a0 : Int) (a1 : Int) (r : Int) (w : World) (h : spec_l01Floor.f a0 a1 = some r) :
    Calls Try.prog 116 #[.int .i64 a0, .int .i64 a1] w fun e w' => e = .returned (.int .i64 r) ∧ Drawn0 w w' := by
 have H : (if a1 = 0 then (none) else (if (wrap64 ((wrap64 (Int.tdiv a0 a1)) * a1)) > a0 then (some (wrap64 ((wrap64 (Int.tdiv a0 a1)) - 1))) else (some (wrap64 (Int.tdiv a0 a1))))) = some r := h; clear h; obtain ⟨c3, H⟩ := sqJ H; have c3b0 : (a1 == 0) = false := beq_eq_false_iff_ne.mpr c3; have c3b1 : (a1 != 0) = true := bne_iff_ne.mpr c3; by_cases c4 : (wrap64 ((wrap64 (Int.tdiv a0 a1)) * a1)) > a0
 ·rw [if_pos c4] at H; replace c4 := decide_eq_true c4; obtain rfl := Option.some.inj H; go_enter Try.func116, Try.ntmps116; go_wp2; go_ret; exact ⟨z3, z10⟩
 rw [if_neg c4] at H; replace c4 := decide_eq_false c4; obtain rfl := Option.some.inj H; go_enter Try.func116, Try.ntmps116; go_wp2; go_ret; exact ⟨z3, z10⟩

/-! ### spec_l01Ceil: function 117 -/
def spec_l01Ceil.f (a0 : Int) (a1 : Int) : Option (Int) := (spec_l01Floor.f (wrap64 (-a0)) a1).bind fun t158 => (some (wrap64 (-t158)))
set_option maxHeartbeats 8000000 in
set_option maxRecDepth 100000 in
theorem spec_l01Ceil.calls (a0 : Int) (a1 : Int) (r : Int) (w : World) (h : spec_l01Ceil.f a0 a1 = some r) :
    Calls Try.prog 117 #[.int .i64 a0, .int .i64 a1] w fun e w' => e = .returned (.int .i64 r) ∧ Drawn0 w w' := by
 have H : ((spec_l01Floor.f (wrap64 (-a0)) a1).bind fun t158 => (some (wrap64 (-t158)))) = some r := h; clear h; obtain ⟨t158, A3, H⟩ := sqB H; obtain rfl := Option.some.inj H; go_enter Try.func117, Try.ntmps117; go_wp2_with (first | (refine sqG 116 (some 8) Try.func116 #[.int .i64 (wrap64 (-a0)), .int .i64 a1] (h := ?_); (with_reducible refine (spec_l01Floor.calls (wrap64 (-a0)) a1 t158 _ A3.out).mono ?_); rintro e w' ⟨rfl, ⟨nd, rfl⟩⟩; refine ⟨_, rfl, ?_⟩)); go_ret; exact ⟨z3, z10⟩

end Go.Proofs.Ytlhpejabdmejbaa.PFnExactIsMixtureOf
