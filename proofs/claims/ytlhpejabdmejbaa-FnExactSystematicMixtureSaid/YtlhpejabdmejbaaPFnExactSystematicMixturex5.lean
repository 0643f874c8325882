/- Written by this session's program (wip/tool/xprint.py) over the kit's printer. -/
import Derived.Test.YtlhpejabdmejbaaPFnExactSystematicMixturex0
import Derived.Test.YtlhpejabdmejbaaPFnExactSystematicMixturex4
namespace Go.Proofs.Ytlhpejabdmejbaa.PFnExactSystematicMixture
open Go.RowKit Go.Proofs.YtlhpejabdmejbaaW.PrintWords Go.Proofs.YtlhpejabdmejbaaW.PrintLast Go.Proofs.YtlhpejabdmejbaaW.PrintMore
attribute [local go_sem] max2_int min2_int max_two min_two max_three min_three max_four min_four   -- for this text's walks alone
set_option linter.unusedVariables false
set_option linter.unusedSimpArgs false

/-! ### impl_ValidValues: function 60 -/
def impl_ValidValues.f (k : Nat) (a0_0 : Int) (l0_1 : List Int) : Option (Bool) := (impl_within.f a0_0 1 1000).bind fun t209 => (if t209 = true then (if (l0_1.length : Int) ≤ 40 then ((impl_areWithin.f k l0_1 (-1000000) 1000000).bind fun t210 => (some t210)) else (some false)) else (some false))
theorem impl_ValidValues.mono : ∀ a0 a1 k, LeO (impl_ValidValues.f k a0 a1) (impl_ValidValues.f (k + 1) a0 a1) := by
  intro a0 a1 k
  unfold impl_ValidValues.f
  repeat' first | (with_reducible first | apply impl_areWithin.mono | exact LeO.refl _ | exact LeO.none _ | refine LeO.ite ?_ ?_ | refine LeO.bind ?_ (fun _ => ?_)) | apply impl_areWithin.mono | exact LeO.none _ | refine LeO.ite ?_ ?_ | refine LeO.bind ?_ (fun _ => ?_)
set_option maxHeartbeats 8000000 in
set_option maxRecDepth 100000 in
theorem impl_ValidValues.calls (k : Nat) (a0_0 : Int) (A0_1 : Option Addr) (c0_1 : Nat) (l0_1 : List Int) (r : Bool) (w : World) (hr0_1 : Kd.C (Kd.int .i64) w A0_1 l0_1.length l0_1) (hc0_1 : l0_1.length ≤ c0_1) (h : impl_ValidValues.f k a0_0 l0_1 = some r) :
    Calls Try.prog 60 #[.agg #[.int .i64 a0_0, .slice A0_1 l0_1.length c0_1]] w fun e w' => e = .returned (.bool r) ∧ Below w.heap.size w w' := by
 have hu43 := Try.underlying43; have HR0_1 := mA hr0_1; have HC0_1 := mA hc0_1; clear hr0_1 hc0_1; have HB := mA (Below.refl w.heap.size w); have H : ((impl_within.f a0_0 1 1000).bind fun t209 => (if t209 = true then (if (l0_1.length : Int) ≤ 40 then ((impl_areWithin.f k l0_1 (-1000000) 1000000).bind fun t210 => (some t210)) else (some false)) else (some false))) = some r := h; clear h; obtain ⟨t209, A2, H⟩ := sqB H; refine sqC (t209 = true) (fun c3 => ?_) (fun c3 => ?_)
 ·replace c3 := Bool.eq_false_iff.mpr c3; subst c3; rw [if_neg (show ¬ (false = true) by decide)] at H; obtain rfl := Option.some.inj H; go_enter Try.func60, Try.ntmps60; go_wp2_with (first | ((with_reducible refine gate_dst (N := 1) rfl ?_); (try (refine gate_guard (by rfl) ?_; dsimp only)); refine sqX 1 #[.int .i64 a0_0, .slice A0_1 l0_1.length c0_1] 43 ?_; intro gb208 hg w11 hbox hb; have BK208 := mA (hbox); have GW208 := mA ((zq8 : w.heap.size ≤ gb208)); have GE208 := mA ((zq8 : w.heap.size ≤ gb208)); replace HB := mA (below_step zq2 hb); clear hb hbox hg; have hcz12_0 := sqZ0 BK208; have hcz12_1 := sqZ1 BK208; have hfz12_0 := blk_frozen BK208.out 0; have hfz12_1 := blk_frozen BK208.out 1) | (refine sqG 68 (some 5) Try.func68 #[.int .i64 a0_0, .int .i64 1, .int .i64 1000] (h := ?_); (with_reducible refine (impl_within.calls a0_0 1 1000 false _ A2.out).mono ?_); rintro e w' ⟨rfl, ⟨nd, rfl⟩⟩; refine ⟨_, rfl, ?_⟩)); go_ret; exact ⟨zq7, zq1⟩
 subst c3; rw [if_pos rfl] at H; refine sqC ((l0_1.length : Int) ≤ 40) (fun c4 => ?_) (fun c4 => ?_)
 ·rw [if_neg c4] at H; have c4b0 : decide ((l0_1.length : Int) ≤ 40) = false := decide_eq_false c4; have c4b1 : decide (l0_1.length ≤ 40) = false := decide_eq_false (by omega); clear c4; obtain rfl := Option.some.inj H; go_enter Try.func60, Try.ntmps60; go_wp2_with (first | ((with_reducible refine gate_dst (N := 1) rfl ?_); (try (refine gate_guard (by rfl) ?_; dsimp only)); refine sqX 1 #[.int .i64 a0_0, .slice A0_1 l0_1.length c0_1] 43 ?_; intro gb208 hg w9 hbox hb; have BK208 := mA (hbox); have GW208 := mA ((zq8 : w.heap.size ≤ gb208)); have GE208 := mA ((zq8 : w.heap.size ≤ gb208)); replace HB := mA (below_step zq2 hb); clear hb hbox hg; have hcz10_0 := sqZ0 BK208; have hcz10_1 := sqZ1 BK208; have hfz10_0 := blk_frozen BK208.out 0; have hfz10_1 := blk_frozen BK208.out 1) | (refine sqG 68 (some 5) Try.func68 #[.int .i64 a0_0, .int .i64 1, .int .i64 1000] (h := ?_); (with_reducible refine (impl_within.calls a0_0 1 1000 true _ A2.out).mono ?_); rintro e w' ⟨rfl, ⟨nd, rfl⟩⟩; refine ⟨_, rfl, ?_⟩)); go_ret; exact ⟨zq7, zq1⟩
 rw [if_pos c4] at H; have c4b0 : decide ((l0_1.length : Int) ≤ 40) = true := decide_eq_true c4; have c4b1 : decide (l0_1.length ≤ 40) = true := decide_eq_true (by omega); clear c4; obtain ⟨t210, A5, H⟩ := sqB H; obtain rfl := Option.some.inj H; go_enter Try.func60, Try.ntmps60; go_wp2_with (first | ((with_reducible refine gate_dst (N := 1) rfl ?_); (try (refine gate_guard (by rfl) ?_; dsimp only)); refine sqX 1 #[.int .i64 a0_0, .slice A0_1 l0_1.length c0_1] 43 ?_; intro gb208 hg w6 hbox hb; have BK208 := mA (hbox); have GW208 := mA ((zq8 : w.heap.size ≤ gb208)); have GE208 := mA ((zq8 : w.heap.size ≤ gb208)); replace HB := mA (below_step zq2 hb); clear hb hbox hg; have hcz7_0 := sqZ0 BK208; have hcz7_1 := sqZ1 BK208; have hfz7_0 := blk_frozen BK208.out 0; have hfz7_1 := blk_frozen BK208.out 1) | (refine sqG 68 (some 5) Try.func68 #[.int .i64 a0_0, .int .i64 1, .int .i64 1000] (h := ?_); (with_reducible refine (impl_within.calls a0_0 1 1000 true _ A2.out).mono ?_); rintro e w' ⟨rfl, ⟨nd, rfl⟩⟩; refine ⟨_, rfl, ?_⟩) | (go_at_call 107; (with_reducible refine (impl_areWithin.calls k _ _ l0_1 (-1000000) 1000000 t210 _ ?s1 ?s2 A5.out).mono ?_); (case s1 => repeat (first | exact (Kd.C_below HR0_1.out zq1) | (with_reducible refine Kd.C_alloc ?_ _) | (with_reducible refine Kd.C_drewN ?_ _) | (with_reducible refine Kd.C_drew ?_))); (case s2 => exact HC0_1.out); rintro e w8 ⟨rfl, hb⟩; replace BK208 := mA (blk_below (g := gb208) (o := .cells #[.int .i64 a0_0, .slice A0_1 l0_1.length c0_1] 43 (0, 0)) (zq0 BK208) hb); replace HB := mA (below_step zq1 hb); (try clear hb))); go_ret; exact ⟨zq7, zq1⟩

/-! ### impl_isSet: function 64 -/
def impl_isSet.l0 : Nat → List Int → Int → List Int → Int → Int → Option (Bool)
  | 0, _, _, _, _, _ => none
  | k + 1, x0, x1, x7, x8, x9 => if x9 < x8 then (if 0 ≤ x9 then (if x9 < (x7.length : Int) then ((impl_within.f (rd x7 x9) 0 (wrap64 (x1 - 1))).bind fun t212 => (if t212 = true then (if x9 > 0 then (if 0 ≤ (wrap64 (x9 - 1)) then (if (wrap64 (x9 - 1)) < (x0.length : Int) then (if (rd x7 x9) ≤ (rd x0 (wrap64 (x9 - 1))) then (some false) else (impl_isSet.l0 k x0 x1 x7 x8 (wrap64 (x9 + 1)))) else (none)) else (none)) else (impl_isSet.l0 k x0 x1 x7 x8 (wrap64 (x9 + 1)))) else (some false))) else (none)) else (none)) else (some true)
def impl_isSet.f (k : Nat) (l0 : List Int) (a1 : Int) : Option (Bool) := impl_isSet.l0 k l0 a1 l0 (l0.length : Int) 0
theorem impl_isSet.mono_l : ∀ k, (∀ y0 y1 y2 y3 y4, LeO (impl_isSet.l0 k y0 y1 y2 y3 y4) (impl_isSet.l0 (k + 1) y0 y1 y2 y3 y4))
  | 0 => fun _ _ _ _ _ r h => by simp [impl_isSet.l0] at h
  | k + 1 => by
   have ih0 := impl_isSet.mono_l k
   intros
   unfold impl_isSet.l0
   all_goals repeat' first | (with_reducible first | apply ih0 | exact LeO.refl _ | exact LeO.none _ | refine LeO.ite ?_ ?_ | refine LeO.bind ?_ (fun _ => ?_)) | apply ih0 | exact LeO.none _ | refine LeO.ite ?_ ?_ | refine LeO.bind ?_ (fun _ => ?_)
theorem impl_isSet.mono : ∀ a0 a1 k, LeO (impl_isSet.f k a0 a1) (impl_isSet.f (k + 1) a0 a1) := by
  intro a0 a1 k
  have ih0 := impl_isSet.mono_l k
  unfold impl_isSet.f
  repeat' first | (with_reducible first | apply ih0 | exact LeO.refl _ | exact LeO.none _ | refine LeO.ite ?_ ?_ | refine LeO.bind ?_ (fun _ => ?_)) | apply ih0 | exact LeO.none _ | refine LeO.ite ?_ ?_ | refine LeO.bind ?_ (fun _ => ?_)
set_option maxHeartbeats 8000000 in
set_option maxRecDepth 100000 in
theorem impl_isSet.calls (k : Nat) (A0 : Option Addr) (c0 : Nat) (l0 : List Int) (a1 : Int) (r : Bool) (w : World) (hr0 : Kd.C (Kd.int .i64) w A0 l0.length l0) (hc0 : l0.length ≤ c0) (h : impl_isSet.f k l0 a1 = some r) :
    Calls Try.prog 64 #[.slice A0 l0.length c0, .int .i64 a1] w fun e w' => e = .returned (.bool r) ∧ Drawn0 w w' := by
 have HR0 := mA hr0; have HC0 := mA hc0; clear hr0 hc0; have H : (impl_isSet.l0 k l0 a1 l0 (l0.length : Int) 0) = some r := h; clear h; have H' := mA H; clear H; go_enter Try.func64, Try.ntmps64; go_wp2; go_loopg [9] k (fun kq v9 w' => ∃ (x9_1 : Int), v9 = .int .i64 x9_1 ∧ Aside0 (impl_isSet.l0 kq l0 a1 l0 (l0.length : Int) x9_1 = some r) ∧ Aside0 (kq ≤ k) ∧ Drawn0 w w')
 case atStart => exact ⟨(0), zq4, H', ⟨Nat.le_refl _⟩, zq6⟩
 case round =>
  clear H'; (try clear p2); obtain ⟨x9_1, rfl, HA, HK1, ⟨m1, rfl⟩⟩ := hrel
  cases gk with
  | zero => exact absurd HA.out (by simp [impl_isSet.l0])
  | succ k1 =>
   have H := HA.out; clear HA; simp only [impl_isSet.l0] at H; refine sqC (x9_1 < (l0.length : Int)) (fun c3 => ?_) (fun c3 => ?_)
   ·rw [if_neg c3] at H; replace c3 := decide_eq_false c3; obtain rfl := Option.some.inj H; go_wp2; go_ret; exact ⟨zq4, zq6⟩
   rw [if_pos c3] at H; replace c3 := decide_eq_true c3; obtain ⟨c4, H⟩ := sqI H; have c4b0 : decide (0 ≤ x9_1) = true := decide_eq_true c4; clear c4; obtain ⟨c5, H⟩ := sqI H; replace c5 := decide_eq_true c5; obtain ⟨t212, A6, H⟩ := sqB H; refine sqC (t212 = true) (fun c7 => ?_) (fun c7 => ?_)
   ·replace c7 := Bool.eq_false_iff.mpr c7; subst c7; rw [if_neg (show ¬ (false = true) by decide)] at H; obtain rfl := Option.some.inj H; have p211 : 0 ≤ (x9_1 : Int) := sqd; have q211 : x9_1 < (l0.length : Int) := sqd; obtain ⟨ad211, e211, hx211_0⟩ := Kd.at_int HR0.out x9_1 p211 q211
    cases e211
    replace p211 := eq_true p211; replace q211 := eq_true q211; go_wp2_with (first | (refine sqG 68 (some 17) Try.func68 #[.int .i64 (rd l0 x9_1), .int .i64 0, .int .i64 (wrap64 (a1 - 1))] (h := ?_); (with_reducible refine (impl_within.calls (rd l0 x9_1) 0 (wrap64 (a1 - 1)) false _ A6.out).mono ?_); rintro e w' ⟨rfl, ⟨nd, rfl⟩⟩; refine ⟨_, rfl, ?_⟩)); go_ret; exact ⟨zq4, zq6⟩
   subst c7; rw [if_pos rfl] at H; refine sqC (x9_1 > 0) (fun c8 => ?_) (fun c8 => ?_)
   ·rw [if_neg c8] at H; have c8b0 : decide (0 < x9_1) = false := decide_eq_false c8; clear c8; have H' := mA H; clear H; have p211 : 0 ≤ (x9_1 : Int) := sqd; have q211 : x9_1 < (l0.length : Int) := sqd; obtain ⟨ad211, e211, hx211_0⟩ := Kd.at_int HR0.out x9_1 p211 q211
    cases e211
    replace p211 := eq_true p211; replace q211 := eq_true q211; go_wp2_with (first | (refine sqG 68 (some 17) Try.func68 #[.int .i64 (rd l0 x9_1), .int .i64 0, .int .i64 (wrap64 (a1 - 1))] (h := ?_); (with_reducible refine (impl_within.calls (rd l0 x9_1) 0 (wrap64 (a1 - 1)) true _ A6.out).mono ?_); rintro e w' ⟨rfl, ⟨nd, rfl⟩⟩; refine ⟨_, rfl, ?_⟩)); go_roundg k1
    case measure => have := HK1.out; omega
    case rel => exact ⟨(wrap64 (x9_1 + 1)), zq4, H', ⟨by have := HK1.out; omega⟩, zq6⟩
   rw [if_pos c8] at H; have c8b0 : decide (0 < x9_1) = true := decide_eq_true c8; clear c8; obtain ⟨ji9, hji9⟩ : ∃ j_ : Int, (wrap64 (x9_1 - 1)) = j_ := ⟨_, rfl⟩
   replace H : (if 0 ≤ (ji9) then (if (ji9) < (l0.length : Int) then (if (rd l0 x9_1) ≤ (rd l0 (ji9)) then (some false) else (impl_isSet.l0 k1 l0 a1 l0 (l0.length : Int) (wrap64 (x9_1 + 1)))) else (none)) else (none)) = some r := by first | (rw [hji9] at H; exact H) | (simp only [hji9] at H ⊢; exact H)
   (try rw [hji9] at A6); have hji9w : (IntKind.i64.wrap (x9_1 - 1)) = ji9 := (i64_w _).trans hji9; obtain ⟨c10, H⟩ := sqI H; replace c10 := decide_eq_true c10; obtain ⟨c11, H⟩ := sqI H; replace c11 := decide_eq_true c11; by_cases c12 : (rd l0 x9_1) ≤ (rd l0 (ji9))
   ·rw [if_pos c12] at H; replace c12 := decide_eq_true c12; obtain rfl := Option.some.inj H; have p211 : 0 ≤ (x9_1 : Int) := sqd; have q211 : x9_1 < (l0.length : Int) := sqd; obtain ⟨ad211, e211, hx211_0⟩ := Kd.at_int HR0.out x9_1 p211 q211
    cases e211
    replace p211 := eq_true p211; replace q211 := eq_true q211; go_wp2_with (first | (refine sqG 68 (some 17) Try.func68 #[.int .i64 (rd l0 x9_1), .int .i64 0, .int .i64 (wrap64 (a1 - 1))] (h := ?_); (with_reducible refine (impl_within.calls (rd l0 x9_1) 0 (wrap64 (a1 - 1)) true _ A6.out).mono ?_); rintro e w' ⟨rfl, ⟨nd, rfl⟩⟩; refine ⟨_, rfl, ?_⟩; have p213 : 0 ≤ ((ji9) : Int) := sqd; have q213 : (ji9) < (l0.length : Int) := sqd; obtain ⟨ad213, e213, hx213_0⟩ := Kd.at_int HR0.out (ji9) p213 q213; obtain rfl : ad211 = ad213 := (by injection e213); replace p213 := eq_true p213; replace q213 := eq_true q213)); go_ret; exact ⟨by first | rfl | (simp; done) | (simp only [← hji9] <;> (first | rfl | simp)) | (simp [*]; done), zq6⟩
   rw [if_neg c12] at H; replace c12 := decide_eq_false c12; have H' := mA H; clear H; have p211 : 0 ≤ (x9_1 : Int) := sqd; have q211 : x9_1 < (l0.length : Int) := sqd; obtain ⟨ad211, e211, hx211_0⟩ := Kd.at_int HR0.out x9_1 p211 q211
   cases e211
   replace p211 := eq_true p211; replace q211 := eq_true q211; go_wp2_with (first | (refine sqG 68 (some 17) Try.func68 #[.int .i64 (rd l0 x9_1), .int .i64 0, .int .i64 (wrap64 (a1 - 1))] (h := ?_); (with_reducible refine (impl_within.calls (rd l0 x9_1) 0 (wrap64 (a1 - 1)) true _ A6.out).mono ?_); rintro e w' ⟨rfl, ⟨nd, rfl⟩⟩; refine ⟨_, rfl, ?_⟩; have p213 : 0 ≤ ((ji9) : Int) := sqd; have q213 : (ji9) < (l0.length : Int) := sqd; obtain ⟨ad213, e213, hx213_0⟩ := Kd.at_int HR0.out (ji9) p213 q213; obtain rfl : ad211 = ad213 := (by injection e213); replace p213 := eq_true p213; replace q213 := eq_true q213)); go_roundg k1
   case measure => have := HK1.out; omega
   case rel => exact ⟨(wrap64 (x9_1 + 1)), zq4, H', ⟨by have := HK1.out; omega⟩, zq6⟩

/-! ### impl_size_int64: function 65 -/
def impl_size_int64.f (l0 : List Int) : Option (Int) := some (l0.length : Int)
set_option maxHeartbeats 8000000 in
set_option maxRecDepth 100000 in
theorem impl_size_int64.calls (A0 : Option Addr) (c0 : Nat) (l0 : List Int) (r : Int) (w : World) (hr0 : Kd.C (Kd.int .i64) w A0 l0.length l0) (hc0 : l0.length ≤ c0) (h : impl_size_int64.f l0 = some r) :
    Calls Try.prog 65 #[.slice A0 l0.length c0] w fun e w' => e = .returned (.int .i64 r) ∧ Drawn0 w w' := by
 have HR0 := mA hr0; have HC0 := mA hc0; clear hr0 hc0; have H : (some (l0.length : Int)) = some r := h; clear h; obtain rfl := Option.some.inj H; go_enter Try.func65, Try.ntmps65; go_wp2; go_ret; exact ⟨zq4, zq6⟩

-- told with its function values: function 118 (slices_IndexFunc_int64_int64_118)

/-! ### slices_Equal_int64_int64: function 113 -/
def slices_Equal_int64_int64.l0 : Nat → List Int → List Int → Int → Int → Option (Bool)
  | 0, _, _, _, _ => none
  | k + 1, x0, x1, x12, x13 => if x13 < x12 then (if 0 ≤ x13 then (if x13 < (x0.length : Int) then (if x13 < (x1.length : Int) then (if (rd x0 x13) = (rd x1 x13) then (slices_Equal_int64_int64.l0 k x0 x1 x12 (wrap64 (x13 + 1))) else (some false)) else (none)) else (none)) else (none)) else (some true)
def slices_Equal_int64_int64.f (k : Nat) (l0 : List Int) (l1 : List Int) : Option (Bool) := if (l0.length : Int) = (l1.length : Int) then (slices_Equal_int64_int64.l0 k l0 l1 (l0.length : Int) 0) else (some false)
theorem slices_Equal_int64_int64.mono_l : ∀ k, (∀ y0 y1 y2 y3, LeO (slices_Equal_int64_int64.l0 k y0 y1 y2 y3) (slices_Equal_int64_int64.l0 (k + 1) y0 y1 y2 y3))
  | 0 => fun _ _ _ _ r h => by simp [slices_Equal_int64_int64.l0] at h
  | k + 1 => by
   have ih0 := slices_Equal_int64_int64.mono_l k
   intros
   unfold slices_Equal_int64_int64.l0
   all_goals repeat' first | (with_reducible first | apply ih0 | exact LeO.refl _ | exact LeO.none _ | refine LeO.ite ?_ ?_ | refine LeO.bind ?_ (fun _ => ?_)) | apply ih0 | exact LeO.none _ | refine LeO.ite ?_ ?_ | refine LeO.bind ?_ (fun _ => ?_)
theorem slices_Equal_int64_int64.mono : ∀ a0 a1 k, LeO (slices_Equal_int64_int64.f k a0 a1) (slices_Equal_int64_int64.f (k + 1) a0 a1) := by
  intro a0 a1 k
  have ih0 := slices_Equal_int64_int64.mono_l k
  unfold slices_Equal_int64_int64.f
  repeat' first | (with_reducible first | apply ih0 | exact LeO.refl _ | exact LeO.none _ | refine LeO.ite ?_ ?_ | refine LeO.bind ?_ (fun _ => ?_)) | apply ih0 | exact LeO.none _ | refine LeO.ite ?_ ?_ | refine LeO.bind ?_ (fun _ => ?_)
set_option maxHeartbeats 8000000 in
set_option maxRecDepth 100000 in
theorem slices_Equal_int64_int64.calls (k : Nat) (A0 : Option Addr) (c0 : Nat) (l0 : List Int) (A1 : Option Addr) (c1 : Nat) (l1 : List Int) (r : Bool) (w : World) (hr0 : Kd.C (Kd.int .i64) w A0 l0.length l0) (hc0 : l0.length ≤ c0) (hr1 : Kd.C (Kd.int .i64) w A1 l1.length l1) (hc1 : l1.length ≤ c1) (h : slices_Equal_int64_int64.f k l0 l1 = some r) :
    Calls Try.prog 113 #[.slice A0 l0.length c0, .slice A1 l1.length c1] w fun e w' => e = .returned (.bool r) ∧ Drawn0 w w' := by
 have HR0 := mA hr0; have HC0 := mA hc0; clear hr0 hc0; have HR1 := mA hr1; have HC1 := mA hc1; clear hr1 hc1; have H : (if (l0.length : Int) = (l1.length : Int) then (slices_Equal_int64_int64.l0 k l0 l1 (l0.length : Int) 0) else (some false)) = some r := h; clear h; refine sqC ((l0.length : Int) = (l1.length : Int)) (fun c3 => ?_) (fun c3 => ?_)
 ·rw [if_neg c3] at H; have c3b0 : ((l0.length : Int) == (l1.length : Int)) = false := beq_eq_false_iff_ne.mpr c3; have c3b1 : ((l0.length : Int) != (l1.length : Int)) = true := bne_iff_ne.mpr c3
  have c3b2 : (l0.length == l1.length) = false := by first | simpa using c3 | (simp at c3 ⊢; omega)
  obtain rfl := Option.some.inj H; go_enter Try.func113, Try.ntmps113; go_wp2
  repeat (go_quiet (fail); try go_wp2)
  go_ret; exact ⟨zq4, zq6⟩
 rw [if_pos c3] at H; have c3b0 : ((l0.length : Int) == (l1.length : Int)) = true := beq_iff_eq.mpr c3; have c3b1 : ((l0.length : Int) != (l1.length : Int)) = false := bne_eq_false_iff_eq.mpr c3
 have c3b2 : (l0.length == l1.length) = true := by first | simpa using c3 | (simp at c3 ⊢; omega)
 clear c3; have H' := mA H; clear H; go_enter Try.func113, Try.ntmps113; go_wp2
 repeat (go_quiet (fail); try go_wp2)
 go_loopg [13] k (fun kq v13 w' => ∃ (x13_1 : Int), v13 = .int .i64 x13_1 ∧ Aside0 (slices_Equal_int64_int64.l0 kq l0 l1 (l0.length : Int) x13_1 = some r) ∧ Aside0 (kq ≤ k) ∧ Drawn0 w w')
 case atStart => exact ⟨(0), zq4, H', ⟨Nat.le_refl _⟩, zq6⟩
 case round =>
  clear H'; (try clear c1); (try clear p2); (try clear c3); (try clear c3b0); (try clear c3b1); (try clear c3b2); obtain ⟨x13_1, rfl, HA, HK1, ⟨m1, rfl⟩⟩ := hrel
  cases gk with
  | zero => exact absurd HA.out (by simp [slices_Equal_int64_int64.l0])
  | succ k1 =>
   have H := HA.out; clear HA; simp only [slices_Equal_int64_int64.l0] at H; refine sqC (x13_1 < (l0.length : Int)) (fun c4 => ?_) (fun c4 => ?_)
   ·rw [if_neg c4] at H; have c4b0 : decide (x13_1 < (l0.length : Int)) = false := decide_eq_false c4; clear c4; obtain rfl := Option.some.inj H; go_wp2
    repeat (go_quiet (fail); try go_wp2)
    go_ret; exact ⟨zq4, zq6⟩
   rw [if_pos c4] at H; have c4b0 : decide (x13_1 < (l0.length : Int)) = true := decide_eq_true c4; clear c4; obtain ⟨c5, H⟩ := sqI H; replace c5 := decide_eq_true c5; obtain ⟨c6, H⟩ := sqI H; replace c6 := decide_eq_true c6; obtain ⟨c7, H⟩ := sqI H; replace c7 := decide_eq_true c7; refine sqC ((rd l0 x13_1) = (rd l1 x13_1)) (fun c8 => ?_) (fun c8 => ?_)
   ·rw [if_neg c8] at H; have c8b0 : ((rd l0 x13_1) == (rd l1 x13_1)) = false := beq_eq_false_iff_ne.mpr c8; have c8b1 : ((rd l0 x13_1) != (rd l1 x13_1)) = true := bne_iff_ne.mpr c8; obtain rfl := Option.some.inj H; have p214 : 0 ≤ (x13_1 : Int) := sqd; have q214 : x13_1 < (l0.length : Int) := sqd; obtain ⟨ad214, e214, hx214_0⟩ := Kd.at_int HR0.out x13_1 p214 q214
    cases e214
    replace p214 := eq_true p214; replace q214 := eq_true q214; have p215 : 0 ≤ (x13_1 : Int) := sqd; have q215 : x13_1 < (l1.length : Int) := sqd; obtain ⟨ad215, e215, hx215_0⟩ := Kd.at_int HR1.out x13_1 p215 q215
    cases e215
    replace p215 := eq_true p215; replace q215 := eq_true q215; go_wp2
    repeat (go_quiet (fail); try go_wp2)
    go_ret; exact ⟨zq4, zq6⟩
   rw [if_pos c8] at H; have c8b0 : ((rd l0 x13_1) == (rd l1 x13_1)) = true := beq_iff_eq.mpr c8; have c8b1 : ((rd l0 x13_1) != (rd l1 x13_1)) = false := bne_eq_false_iff_eq.mpr c8; clear c8; have H' := mA H; clear H; have p214 : 0 ≤ (x13_1 : Int) := sqd; have q214 : x13_1 < (l0.length : Int) := sqd; obtain ⟨ad214, e214, hx214_0⟩ := Kd.at_int HR0.out x13_1 p214 q214
   cases e214
   replace p214 := eq_true p214; replace q214 := eq_true q214; have p215 : 0 ≤ (x13_1 : Int) := sqd; have q215 : x13_1 < (l1.length : Int) := sqd; obtain ⟨ad215, e215, hx215_0⟩ := Kd.at_int HR1.out x13_1 p215 q215
   cases e215
   replace p215 := eq_true p215; replace q215 := eq_true q215; go_wp2
   repeat (go_quiet (fail); try go_wp2)
   go_roundg k1
   case measure => have := HK1.out; omega
   case rel => exact ⟨(wrap64 (x13_1 + 1)), zq4, H', ⟨by have := HK1.out; omega⟩, zq6⟩

-- told with its function values: function 124 (impl_Mixture_addTo_1)

/-! ### impl_Mixture_addTo_1: function 124 -/
def impl_Mixture_addTo_1.f (k : Nat) (l0 : List Int) (l1_0 : List Int) : Option (Bool) := (slices_Equal_int64_int64.f k l0 l1_0).bind fun t216 => (some t216)
theorem impl_Mixture_addTo_1.mono : ∀ a0 a1 k, LeO (impl_Mixture_addTo_1.f k a0 a1) (impl_Mixture_addTo_1.f (k + 1) a0 a1) := by
  intro a0 a1 k
  unfold impl_Mixture_addTo_1.f
  repeat' first | (with_reducible first | apply slices_Equal_int64_int64.mono | exact LeO.refl _ | exact LeO.none _ | refine LeO.ite ?_ ?_ | refine LeO.bind ?_ (fun _ => ?_)) | apply slices_Equal_int64_int64.mono | exact LeO.none _ | refine LeO.ite ?_ ?_ | refine LeO.bind ?_ (fun _ => ?_)
set_option maxHeartbeats 8000000 in
set_option maxRecDepth 100000 in
theorem impl_Mixture_addTo_1.calls (k : Nat) (A0 : Option Addr) (c0 : Nat) (l0 : List Int) (gv1_0_ : Nat) (A1_0 : Option Addr) (c1_0 : Nat) (l1_0 : List Int) (r : Bool) (w : World) (hr0 : Kd.C (Kd.int .i64) w A0 l0.length l0) (hc0 : l0.length ≤ c0) (hbx1_0_ : w.heap[gv1_0_]? = some (.cells #[.slice A1_0 l1_0.length c1_0] 22 (0, 0))) (hr1_0 : Kd.C (Kd.int .i64) w A1_0 l1_0.length l1_0) (hc1_0 : l1_0.length ≤ c1_0) (h : impl_Mixture_addTo_1.f k l0 l1_0 = some r) :
    Calls Try.prog 124 #[.slice A0 l0.length c0, .pointer (some ⟨gv1_0_, 0, none⟩)] w fun e w' => e = .returned (.bool r) ∧ Below w.heap.size w w' := by
 have HR0 := mA hr0; have HC0 := mA hc0; clear hr0 hc0; have HR1_0 := mA hr1_0; have HC1_0 := mA hc1_0; clear hr1_0 hc1_0; have BK46 := mA hbx1_0_; clear hbx1_0_; have HB := mA (Below.refl w.heap.size w); have H : ((slices_Equal_int64_int64.f k l0 l1_0).bind fun t216 => (some t216)) = some r := h; clear h; obtain ⟨t216, A3, H⟩ := sqB H; obtain rfl := Option.some.inj H; have hcz4_0 := sqZ0 BK46; have hfz4_0 := blk_frozen BK46.out 0; go_enter Try.func124, Try.ntmps124; go_wp2_with (first | (refine sqG 113 (some 6) Try.func113 #[.slice A0 l0.length c0, .slice A1_0 l1_0.length c1_0] (h := ?_); (with_reducible refine (slices_Equal_int64_int64.calls k _ _ l0 _ _ l1_0 t216 _ ?s1 ?s2 ?s3 ?s4 A3.out).mono ?_); (case s1 => repeat (first | exact HR0.out | (with_reducible refine Kd.C_alloc ?_ _) | (with_reducible refine Kd.C_drewN ?_ _) | (with_reducible refine Kd.C_drew ?_))); (case s2 => exact HC0.out); (case s3 => repeat (first | exact HR1_0.out | (with_reducible refine Kd.C_alloc ?_ _) | (with_reducible refine Kd.C_drewN ?_ _) | (with_reducible refine Kd.C_drew ?_))); (case s4 => exact HC1_0.out); rintro e w' ⟨rfl, ⟨nd, rfl⟩⟩; refine ⟨_, rfl, ?_⟩)); go_ret; exact ⟨zq7, zq1⟩

/-! ### slices_IndexFunc_int64_int64_impl_Mixture_addTo_1: function 118 -/
def slices_IndexFunc_int64_int64_impl_Mixture_addTo_1.l0 : Nat → List (List Int) → Int → Int → List Int → Option (Int)
  | 0, _, _, _, _ => none
  | k + 1, x0, x7, x8, x47000 => if x8 < x7 then (if 0 ≤ x8 then (if x8 < (x0.length : Int) then ((impl_Mixture_addTo_1.f k (rd_L1 x0 x8) x47000).bind fun t218 => (if t218 = true then (some x8) else (slices_IndexFunc_int64_int64_impl_Mixture_addTo_1.l0 k x0 x7 (wrap64 (x8 + 1)) x47000))) else (none)) else (none)) else (some (-1))
def slices_IndexFunc_int64_int64_impl_Mixture_addTo_1.f (k : Nat) (l0 : List (List Int)) (l1_0 : List Int) : Option (Int) := slices_IndexFunc_int64_int64_impl_Mixture_addTo_1.l0 k l0 (l0.length : Int) 0 l1_0
theorem slices_IndexFunc_int64_int64_impl_Mixture_addTo_1.mono_l : ∀ k, (∀ y0 y1 y2 y3, LeO (slices_IndexFunc_int64_int64_impl_Mixture_addTo_1.l0 k y0 y1 y2 y3) (slices_IndexFunc_int64_int64_impl_Mixture_addTo_1.l0 (k + 1) y0 y1 y2 y3))
  | 0 => fun _ _ _ _ r h => by simp [slices_IndexFunc_int64_int64_impl_Mixture_addTo_1.l0] at h
  | k + 1 => by
   have ih0 := slices_IndexFunc_int64_int64_impl_Mixture_addTo_1.mono_l k
   intros
   unfold slices_IndexFunc_int64_int64_impl_Mixture_addTo_1.l0
   all_goals repeat' first | (with_reducible first | apply ih0 | apply impl_Mixture_addTo_1.mono | exact LeO.refl _ | exact LeO.none _ | refine LeO.ite ?_ ?_ | refine LeO.bind ?_ (fun _ => ?_)) | apply ih0 | apply impl_Mixture_addTo_1.mono | exact LeO.none _ | refine LeO.ite ?_ ?_ | refine LeO.bind ?_ (fun _ => ?_)
theorem slices_IndexFunc_int64_int64_impl_Mixture_addTo_1.mono : ∀ a0 a1 k, LeO (slices_IndexFunc_int64_int64_impl_Mixture_addTo_1.f k a0 a1) (slices_IndexFunc_int64_int64_impl_Mixture_addTo_1.f (k + 1) a0 a1) := by
  intro a0 a1 k
  have ih0 := slices_IndexFunc_int64_int64_impl_Mixture_addTo_1.mono_l k
  unfold slices_IndexFunc_int64_int64_impl_Mixture_addTo_1.f
  repeat' first | (with_reducible first | apply ih0 | apply impl_Mixture_addTo_1.mono | exact LeO.refl _ | exact LeO.none _ | refine LeO.ite ?_ ?_ | refine LeO.bind ?_ (fun _ => ?_)) | apply ih0 | apply impl_Mixture_addTo_1.mono | exact LeO.none _ | refine LeO.ite ?_ ?_ | refine LeO.bind ?_ (fun _ => ?_)
set_option maxHeartbeats 8000000 in
set_option maxRecDepth 100000 in
theorem slices_IndexFunc_int64_int64_impl_Mixture_addTo_1.calls (k : Nat) (A0 : Option Addr) (c0 : Nat) (l0 : List (List Int)) (gv1_0_ : Nat) (A1_0 : Option Addr) (c1_0 : Nat) (l1_0 : List Int) (r : Int) (w : World) (hr0 : Kd.C (Kd.slice 2 (Kd.int .i64)) w A0 l0.length l0) (hc0 : l0.length ≤ c0) (hbx1_0_ : w.heap[gv1_0_]? = some (.cells #[.slice A1_0 l1_0.length c1_0] 22 (0, 0))) (hr1_0 : Kd.C (Kd.int .i64) w A1_0 l1_0.length l1_0) (hc1_0 : l1_0.length ≤ c1_0) (h : slices_IndexFunc_int64_int64_impl_Mixture_addTo_1.f k l0 l1_0 = some r) :
    Calls Try.prog 118 #[.slice A0 l0.length c0, .func (.func 124) #[] #[.pointer (some ⟨gv1_0_, 0, none⟩)]] w fun e w' => e = .returned (.int .i64 r) ∧ Below w.heap.size w w' := by
 have HR0 := mA hr0; have HC0 := mA hc0; clear hr0 hc0; have HR1_0 := mA hr1_0; have HC1_0 := mA hc1_0; clear hr1_0 hc1_0; have BK46 := mA hbx1_0_; clear hbx1_0_; have HB := mA (Below.refl w.heap.size w); have H : (slices_IndexFunc_int64_int64_impl_Mixture_addTo_1.l0 k l0 (l0.length : Int) 0 l1_0) = some r := h; clear h; have H' := mA H; clear H; go_enter Try.func118, Try.ntmps118; go_wp2; go_loopg [8] k (fun kq v8 w' => ∃ (x8_1 : Int), v8 = .int .i64 x8_1 ∧ Aside0 (slices_IndexFunc_int64_int64_impl_Mixture_addTo_1.l0 kq l0 (l0.length : Int) x8_1 l1_0 = some r) ∧ Aside0 (kq ≤ k) ∧ Aside0 (w'.heap[gv1_0_]? = some (.cells #[(.slice A1_0 l1_0.length c1_0)] 22 (0, 0))) ∧ Aside0 (Below w.heap.size w w'))
 case atStart => exact ⟨(0), zq4, H', ⟨Nat.le_refl _⟩, ⟨zq0 BK46⟩, ⟨zq1⟩⟩
 case round =>
  clear H'; (try clear c1); (try clear p2); obtain ⟨x8_1, rfl, HA, HK1, BK46, HB⟩ := hrel
  cases gk with
  | zero => exact absurd HA.out (by simp [slices_IndexFunc_int64_int64_impl_Mixture_addTo_1.l0])
  | succ k1 =>
   have H := HA.out; clear HA; simp only [slices_IndexFunc_int64_int64_impl_Mixture_addTo_1.l0] at H; refine sqC (x8_1 < (l0.length : Int)) (fun c3 => ?_) (fun c3 => ?_)
   ·rw [if_neg c3] at H; replace c3 := decide_eq_false c3; obtain rfl := Option.some.inj H; go_wp2; go_ret; exact ⟨zq7, zq1⟩
   rw [if_pos c3] at H; replace c3 := decide_eq_true c3; obtain ⟨c4, H⟩ := sqI H; have c4b0 : decide (0 ≤ x8_1) = true := decide_eq_true c4; clear c4; obtain ⟨c5, H⟩ := sqI H; replace c5 := decide_eq_true c5; obtain ⟨t218, A6, H⟩ := sqB H; by_cases c7 : t218 = true
   ·subst c7; rw [if_pos rfl] at H; obtain rfl := Option.some.inj H; have p217 : 0 ≤ (x8_1 : Int) := sqd; have q217 : x8_1 < (l0.length : Int) := sqd; obtain ⟨ad217, A217_0, c217_0, e217, hx217_0, hl217_0, hi217_0⟩ := at_L1 HR0.out x8_1 p217 q217
    cases e217
    replace hx217_0 := sqh HB hx217_0; have HR217_0 := mA hi217_0; have HC217_0 := mA hl217_0; clear hi217_0 hl217_0; replace p217 := eq_true p217; replace q217 := eq_true q217; go_wp2_with (first | (go_at_call 124; (with_reducible refine (impl_Mixture_addTo_1.calls k1 _ _ (rd_L1 l0 x8_1) gv1_0_ A1_0 c1_0 l1_0 true _ ?s1 ?s2 ?s3 ?s4 ?s5 A6.out).mono ?_); (case s1 => repeat (first | exact (Kd.C_below HR217_0.out HB.out) | (with_reducible refine Kd.C_alloc ?_ _) | (with_reducible refine Kd.C_drewN ?_ _) | (with_reducible refine Kd.C_drew ?_))); (case s2 => exact HC217_0.out); (case s3 => first | (with_reducible exact BK46.out) | (exact by (with_reducible repeat (first | refine blk_drewN ?_ _ | refine blk_drew ?_ | refine blk_alloc ?_ _)); exact BK46.out) | ((with_reducible repeat (first | refine blk_drewN ?_ _ | refine blk_drew ?_ | refine blk_alloc ?_ _)); exact BK46.out) | (exact BK46.out)); (case s4 => repeat (first | exact (Kd.C_below HR1_0.out HB.out) | (with_reducible refine Kd.C_alloc ?_ _) | (with_reducible refine Kd.C_drewN ?_ _) | (with_reducible refine Kd.C_drew ?_))); (case s5 => exact HC1_0.out); rintro e w8 ⟨rfl, hb⟩; replace BK46 := mA (blk_below (g := gv1_0_) (o := .cells #[.slice A1_0 l1_0.length c1_0] 22 (0, 0)) (zq0 BK46) hb); replace HB := mA (below_step zq1 hb); (try clear hb))); go_ret; exact ⟨zq7, zq1⟩
   replace c7 := Bool.eq_false_iff.mpr c7; subst c7; rw [if_neg (show ¬ (false = true) by decide)] at H; have H' := mA H; clear H; have p217 : 0 ≤ (x8_1 : Int) := sqd; have q217 : x8_1 < (l0.length : Int) := sqd; obtain ⟨ad217, A217_0, c217_0, e217, hx217_0, hl217_0, hi217_0⟩ := at_L1 HR0.out x8_1 p217 q217
   cases e217
   replace hx217_0 := sqh HB hx217_0; have HR217_0 := mA hi217_0; have HC217_0 := mA hl217_0; clear hi217_0 hl217_0; replace p217 := eq_true p217; replace q217 := eq_true q217; go_wp2_with (first | (go_at_call 124; (with_reducible refine (impl_Mixture_addTo_1.calls k1 _ _ (rd_L1 l0 x8_1) gv1_0_ A1_0 c1_0 l1_0 false _ ?s1 ?s2 ?s3 ?s4 ?s5 A6.out).mono ?_); (case s1 => repeat (first | exact (Kd.C_below HR217_0.out HB.out) | (with_reducible refine Kd.C_alloc ?_ _) | (with_reducible refine Kd.C_drewN ?_ _) | (with_reducible refine Kd.C_drew ?_))); (case s2 => exact HC217_0.out); (case s3 => first | (with_reducible exact BK46.out) | (exact by (with_reducible repeat (first | refine blk_drewN ?_ _ | refine blk_drew ?_ | refine blk_alloc ?_ _)); exact BK46.out) | ((with_reducible repeat (first | refine blk_drewN ?_ _ | refine blk_drew ?_ | refine blk_alloc ?_ _)); exact BK46.out) | (exact BK46.out)); (case s4 => repeat (first | exact (Kd.C_below HR1_0.out HB.out) | (with_reducible refine Kd.C_alloc ?_ _) | (with_reducible refine Kd.C_drewN ?_ _) | (with_reducible refine Kd.C_drew ?_))); (case s5 => exact HC1_0.out); rintro e w9 ⟨rfl, hb⟩; replace BK46 := mA (blk_below (g := gv1_0_) (o := .cells #[.slice A1_0 l1_0.length c1_0] 22 (0, 0)) (zq0 BK46) hb); replace HB := mA (below_step zq1 hb); (try clear hb))); go_roundg k1
   case measure => have := HK1.out; omega
   case rel => exact ⟨(wrap64 (x8_1 + 1)), zq4, H', ⟨by have := HK1.out; omega⟩, ⟨zq0 BK46⟩, ⟨zq1⟩⟩

-- NOT PRINTED: function 89 (impl_Mixture_addTo)

/-! ### cmp_isNaN_int64: function 156 -/
def cmp_isNaN_int64.f (a0 : Int) : Option (Bool) := some (a0 != a0)
set_option maxHeartbeats 8000000 in
set_option maxRecDepth 100000 in
theorem cmp_isNaN_int64.calls (a0 : Int) (r : Bool) (w : World) (h : cmp_isNaN_int64.f a0 = some r) :
    Calls Try.prog 156 #[.int .i64 a0] w fun e w' => e = .returned (.bool r) ∧ Drawn0 w w' := by
 have H : (some (a0 != a0)) = some r := h; clear h; obtain rfl := Option.some.inj H; go_enter Try.func156, Try.ntmps156; go_wp2; go_ret; exact ⟨zq4, zq6⟩

/-! ### cmp_Less_int64: function 146 -/
def cmp_Less_int64.f (a0 : Int) (a1 : Int) : Option (Bool) := (cmp_isNaN_int64.f a0).bind fun t221 => (if t221 = true then ((cmp_isNaN_int64.f a1).bind fun t222 => (if t222 = true then (some (decide (a0 < a1))) else (some true))) else (some (decide (a0 < a1))))
set_option maxHeartbeats 8000000 in
set_option maxRecDepth 100000 in
theorem cmp_Less_int64.calls (a0 : Int) (a1 : Int) (r : Bool) (w : World) (h : cmp_Less_int64.f a0 a1 = some r) :
    Calls Try.prog 146 #[.int .i64 a0, .int .i64 a1] w fun e w' => e = .returned (.bool r) ∧ Drawn0 w w' := by
 have H : ((cmp_isNaN_int64.f a0).bind fun t221 => (if t221 = true then ((cmp_isNaN_int64.f a1).bind fun t222 => (if t222 = true then (some (decide (a0 < a1))) else (some true))) else (some (decide (a0 < a1))))) = some r := h; clear h; obtain ⟨t221, A3, H⟩ := sqB H; refine sqC (t221 = true) (fun c4 => ?_) (fun c4 => ?_)
 ·replace c4 := Bool.eq_false_iff.mpr c4; subst c4; rw [if_neg (show ¬ (false = true) by decide)] at H; obtain rfl := Option.some.inj H; go_enter Try.func146, Try.ntmps146; go_wp2_with (first | (refine sqG 156 (some 6) Try.func156 #[.int .i64 a0] (h := ?_); (with_reducible refine (cmp_isNaN_int64.calls a0 false _ A3.out).mono ?_); rintro e w' ⟨rfl, ⟨nd, rfl⟩⟩; refine ⟨_, rfl, ?_⟩)); go_ret; exact ⟨zq4, zq6⟩
 subst c4; rw [if_pos rfl] at H; obtain ⟨t222, A5, H⟩ := sqB H; by_cases c6 : t222 = true
 ·subst c6; rw [if_pos rfl] at H; obtain rfl := Option.some.inj H; go_enter Try.func146, Try.ntmps146; go_wp2_with (first | (refine sqG 156 (some 6) Try.func156 #[.int .i64 a0] (h := ?_); (with_reducible refine (cmp_isNaN_int64.calls a0 true _ A3.out).mono ?_); rintro e w' ⟨rfl, ⟨nd, rfl⟩⟩; refine ⟨_, rfl, ?_⟩) | (go_at_call 156; (with_reducible refine (cmp_isNaN_int64.calls a1 true _ A5.out).mono ?_); rintro e w' ⟨rfl, ⟨nd, rfl⟩⟩)); go_ret; exact ⟨zq4, zq6⟩
 replace c6 := Bool.eq_false_iff.mpr c6; subst c6; rw [if_neg (show ¬ (false = true) by decide)] at H; obtain rfl := Option.some.inj H; go_enter Try.func146, Try.ntmps146; go_wp2_with (first | (refine sqG 156 (some 6) Try.func156 #[.int .i64 a0] (h := ?_); (with_reducible refine (cmp_isNaN_int64.calls a0 true _ A3.out).mono ?_); rintro e w' ⟨rfl, ⟨nd, rfl⟩⟩; refine ⟨_, rfl, ?_⟩) | (go_at_call 156; (with_reducible refine (cmp_isNaN_int64.calls a1 false _ A5.out).mono ?_); rintro e w' ⟨rfl, ⟨nd, rfl⟩⟩)); go_ret; exact ⟨zq4, zq6⟩

-- NOT PRINTED: function 140 (slices_insertionSortOrdered_int64)

-- NOT PRINTED: function 151 (slices_siftDownOrdered_int64)

-- NOT PRINTED: function 141 (slices_heapSortOrdered_int64)

-- NOT PRINTED: function 149 (bits_Len32)

-- NOT PRINTED: function 150 (bits_Len64)

-- NOT PRINTED: function 129 (bits_Len)

-- NOT PRINTED: function 152 (slices_nextPowerOfTwo)

-- NOT PRINTED: function 153 (slices_xorshift_Next)

-- NOT PRINTED: function 142 (slices_breakPatternsOrdered_int64)

-- NOT PRINTED: function 157 (slices_order2Ordered_int64)

-- NOT PRINTED: function 155 (slices_medianOrdered_int64)

-- NOT PRINTED: function 154 (slices_medianAdjacentOrdered_int64)

-- NOT PRINTED: function 143 (slices_choosePivotOrdered_int64)

-- NOT PRINTED: function 144 (slices_reverseRangeOrdered_int64)

-- NOT PRINTED: function 145 (slices_partialInsertionSortOrdered_int64)

-- NOT PRINTED: function 147 (slices_partitionEqualOrdered_int64)

-- NOT PRINTED: function 148 (slices_partitionOrdered_int64)

-- NOT PRINTED: function 128 (slices_pdqsortOrdered_int64)

/-! ### slices_Sort_int64_int64: function 98 -/
-- given by hand
def slices_Sort_int64_int64.ren : Go.Shelf.Ren := ⟨fun | 5 => 98 | 8 => 129 | 7 => 128 | 19 => 149 | 20 => 150 | 10 => 140 | 11 => 141 | 12 => 142 | 13 => 143 | 14 => 144 | 15 => 145 | 16 => 146 | 17 => 147 | 18 => 148 | 30 => 151 | 31 => 152 | 32 => 153 | 33 => 154 | 34 => 155 | 35 => 156 | 40 => 157 | n => n, fun | 23 => 22 | 25 => 2 | 3 => 3 | 32 => 117 | 22 => 22 | 0 => 0 | 44 => 136 | 46 => 118 | 4 => 4 | 36 => 128 | 35 => 127 | 41 => 133 | 5 => 5 | 9 => 9 | 53 => 138 | 57 => 142 | 63 => 144 | 64 => 145 | n => n, fun | n => n⟩
theorem slices_Sort_int64_int64.lay : Go.Proofs.SlLaysM.n5 Try.prog slices_Sort_int64_int64.ren := {
  mixed := by kernel_rfl,
  f5 := ⟨ "slices.Sort[[]int64,int64]", by decide, Try.func98.trans (congrArg some (by kernel_rfl))⟩,
  f7 := ⟨ "slices.pdqsortOrdered[int64]", by decide, Try.func128.trans (congrArg some (by kernel_rfl))⟩,
  f8 := Try.func129.trans (congrArg some (by kernel_rfl)),
  f10 := ⟨ "slices.insertionSortOrdered[int64]", by decide, Try.func140.trans (congrArg some (by kernel_rfl))⟩,
  f11 := ⟨ "slices.heapSortOrdered[int64]", by decide, Try.func141.trans (congrArg some (by kernel_rfl))⟩,
  f12 := ⟨ "slices.breakPatternsOrdered[int64]", by decide, Try.func142.trans (congrArg some (by kernel_rfl))⟩,
  f13 := ⟨ "slices.choosePivotOrdered[int64]", by decide, Try.func143.trans (congrArg some (by kernel_rfl))⟩,
  f14 := ⟨ "slices.reverseRangeOrdered[int64]", by decide, Try.func144.trans (congrArg some (by kernel_rfl))⟩,
  f15 := ⟨ "slices.partialInsertionSortOrdered[int64]", by decide, Try.func145.trans (congrArg some (by kernel_rfl))⟩,
  f16 := ⟨ "cmp.Less[int64]", by decide, Try.func146.trans (congrArg some (by kernel_rfl))⟩,
  f17 := ⟨ "slices.partitionEqualOrdered[int64]", by decide, Try.func147.trans (congrArg some (by kernel_rfl))⟩,
  f18 := ⟨ "slices.partitionOrdered[int64]", by decide, Try.func148.trans (congrArg some (by kernel_rfl))⟩,
  f19 := Try.func149.trans (congrArg some (by kernel_rfl)),
  f20 := Try.func150.trans (congrArg some (by kernel_rfl)),
  f30 := ⟨ "slices.siftDownOrdered[int64]", by decide, Try.func151.trans (congrArg some (by kernel_rfl))⟩,
  f31 := Try.func152.trans (congrArg some (by kernel_rfl)),
  f32 := Try.func153.trans (congrArg some (by kernel_rfl)),
  f33 := ⟨ "slices.medianAdjacentOrdered[int64]", by decide, Try.func154.trans (congrArg some (by kernel_rfl))⟩,
  f34 := ⟨ "slices.medianOrdered[int64]", by decide, Try.func155.trans (congrArg some (by kernel_rfl))⟩,
  f35 := ⟨ "cmp.isNaN[int64]", by decide, Try.func156.trans (congrArg some (by kernel_rfl))⟩,
  f40 := ⟨ "slices.order2Ordered[int64]", by decide, Try.func157.trans (congrArg some (by kernel_rfl))⟩,
  t0 := Try.underlying0,
  a0 := Try.isAgg0,
  z0 := Try.sizeOf0,
  v0 := Try.zeroValue0,
  t3 := Try.underlying3,
  a3 := Try.isAgg3,
  z3 := Try.sizeOf3,
  v3 := Try.zeroValue3,
  t4 := Try.underlying4,
  a4 := Try.isAgg4,
  z4 := Try.sizeOf4,
  v4 := Try.zeroValue4,
  t5 := Try.underlying5,
  a5 := Try.isAgg5,
  z5 := Try.sizeOf5,
  v5 := Try.zeroValue5,
  t9 := Try.underlying9,
  a9 := Try.isAgg9,
  z9 := Try.sizeOf9,
  v9 := Try.zeroValue9,
  t22 := Try.underlying22,
  a22 := Try.isAgg22,
  z22 := Try.sizeOf22,
  v22 := Try.zeroValue22,
  t23 := Try.underlying22,
  a23 := Try.isAgg22,
  z23 := Try.sizeOf22,
  v23 := Try.zeroValue22,
  t25 := Try.underlying2,
  a25 := Try.isAgg2,
  z25 := Try.sizeOf2,
  v25 := Try.zeroValue2,
  t32 := Try.underlying117,
  a32 := Try.isAgg117,
  z32 := Try.sizeOf117,
  v32 := Try.zeroValue117,
  t35 := Try.underlying127,
  a35 := Try.isAgg127,
  z35 := Try.sizeOf127,
  v35 := Try.zeroValue127,
  t36 := Try.underlying128,
  a36 := Try.isAgg128,
  z36 := Try.sizeOf128,
  v36 := Try.zeroValue128,
  t41 := Try.underlying133,
  a41 := Try.isAgg133,
  z41 := Try.sizeOf133,
  v41 := Try.zeroValue133,
  t44 := Try.underlying136,
  a44 := Try.isAgg136,
  z44 := Try.sizeOf136,
  v44 := Try.zeroValue136,
  t46 := Try.underlying118,
  a46 := Try.isAgg118,
  z46 := Try.sizeOf118,
  v46 := Try.zeroValue118,
  t53 := Try.underlying138,
  a53 := Try.isAgg138,
  z53 := Try.sizeOf138,
  v53 := Try.zeroValue138,
  t57 := Try.underlying142,
  a57 := Try.isAgg142,
  z57 := Try.sizeOf142,
  v57 := Try.zeroValue142,
  t63 := Try.underlying144,
  a63 := Try.isAgg144,
  z63 := Try.sizeOf144,
  v63 := Try.zeroValue144,
  t64 := Try.underlying145,
  a64 := Try.isAgg145,
  z64 := Try.sizeOf145,
  v64 := Try.zeroValue145 }
theorem slices_Sort_int64_int64.holds {w : World} {base e n cap g : Nat} {xs : List Int} (h : w.ownsRow base e 1 (.slice (some ⟨g, 0, none⟩) n cap) n (nums .i64 xs)) : ∃ cur, w.heap[g]? = some (.cells cur e (0, 0)) ∧ xs.length = n ∧ n ≤ cap ∧ cap ≤ maxLen ∧ base ≤ g ∧ cur.size = cap * 1 ∧ cur.toList.take xs.length = xs.map (Value.int .i64) := by
 have hl : xs.length = n := by have := h.1; simp [nums] at this; exact this
 rcases h.2 with ⟨h0, _⟩ | ⟨g', cap', cur, hv, hg, hb, h1, h2, h3, h4⟩
 ·cases h0
 injection hv with ha hn hc
 injection ha with ha
 injection ha with ha _ _
 subst ha hc; refine ⟨cur, hb, hl, h1, h2, hg, h3, ?_⟩; rw [hl]; rw [Nat.mul_one] at h4; exact h4
theorem slices_Sort_int64_int64.back {w : World} {base g cap n : Nat} {e : TypeId} {os : Array Obj} {cur : Array Value} {ss ts : List Int} {ok : Nat → Prop} (hl : ts.length = ss.length) (hbase : base ≤ g) (hb : w.heap[g]? = some (.cells cur e (0, 0)))
    (h1 : ss.length ≤ cap) (h2 : cap ≤ maxLen) (h3 : cur.size = cap * 1) (hok : ok g) : Kd.R (Kd.int .i64) e (Sort.grow (Sort.putRow (Value.int .i64) (Sort.ahead w n) g 0 ts.toArray) os) base ok (.slice (some ⟨g, 0, none⟩) ts.length cap) ts := by
 refine Kd.R_of_own (h1 := fun _ => rfl) ?_ (fun k hk => ?_)
 ·have := ownsRow_sortedI (n := n) (os := os) hl hbase hb h1 h2 h3; rw [← hl] at this; exact this
 ·simp [Value.ownBlock] at hk; rw [← hk]; exact hok
def slices_Sort_int64_int64.f (l0 : List Int) : Option (List Int) := if l0 = [] then none else if l0.length < 4611686018427387904 then some (l0.mergeSort fun x y => decide (x ≤ y)) else none
set_option maxHeartbeats 4000000 in
theorem slices_Sort_int64_int64.calls (P0_ : Nat → Prop) (u9000_ : Value) (l0 : List Int) (r : List Int) (w0 w : World) (hB : Below w0.heap.size w0 w) (ho0 : Kd.R (Kd.int .i64) 2 w w0.heap.size P0_ u9000_ l0) (h : slices_Sort_int64_int64.f l0 = some r) :
    Calls Try.prog 98 #[u9000_] w fun e w' => e = .returned (.tuple #[]) ∧ Kd.R (Kd.int .i64) 2 w' w0.heap.size (fun k_ => (P0_ k_ ∨ w.heap.size ≤ k_)) u9000_ r ∧ Below w0.heap.size w0 w' ∧ Kept w w' (fun k_ => P0_ k_) := by
 unfold slices_Sort_int64_int64.f at h; by_cases c : l0 = []
 ·rw [if_pos c] at h; cases h
 rw [if_neg c] at h; by_cases hsz : l0.length < 4611686018427387904
 case neg => rw [if_neg hsz] at h; cases h
 rw [if_pos hsz] at h; obtain rfl := Option.some.inj h
 have hp : 0 < l0.length := by cases l0 with | nil => exact absurd rfl c | cons _ _ => simp
 obtain ⟨g, cap, rfl, hgb, hgl, _⟩ := Kd.R_form ho0 hp; have hg : P0_ g := ho0.1 g (by simp [Value.ownBlock]); obtain ⟨cur, hb, hl, h1, h2, hbase, h3, h4⟩ := slices_Sort_int64_int64.holds (Kd.own_of_R ho0)
 have key : Calls Try.prog 98 #[.slice (some ⟨g, 0, none⟩) l0.length cap] w fun e w' => e = .returned (.tuple #[]) ∧ ∃ n os, w' = Sort.grow (Sort.putRow (Value.int .i64) (Sort.ahead w n) g 0 (l0.mergeSort fun x y => decide (x ≤ y)).toArray) os :=
  calls_of_every_depth fun D => AnySM.slices_Sort_int_in slices_Sort_int64_int64.lay D g 0 cap l0 w (holds_of_blockI hb h4) (Array.getElem?_eq_some_iff.1 hb).1 hsz
 refine key.mono ?_; rintro e w' ⟨rfl, n, os, rfl⟩; have hlen : (l0.mergeSort fun x y => decide (x ≤ y)).length = l0.length := List.length_mergeSort ..; have gr := grownBy_sortedI (w := w) (g := g) (n := n) (os := os) (l0.mergeSort fun x y => decide (x ≤ y)).toArray; have hr := slices_Sort_int64_int64.back (n := n) (os := os) (ok := fun k_ => (P0_ k_ ∨ w.heap.size ≤ k_)) hlen hbase hb h1 h2 h3 (.inl hg); rw [hlen] at hr; refine ⟨rfl, hr, pw_below_grown hB (some g) (Nat.le_trans hbase (Nat.le_of_lt (Array.getElem?_eq_some_iff.1 hb).1)) gr (fun k hk => by cases hk; exact hbase), Kept.of_grown gr (Kept.refl _ _) (fun k hk => by cases hk; exact .inl hg)⟩

-- told with its function values: function 139 (slices_AppendSeq_int64_int64)

-- told with its function values: function 126 (slices_Collect_int64)

-- told with its function values: function 93 (slices_Sorted_int64)

-- told with its function values: function 127 (slices_Values_int64_int64_1)

-- NOT PRINTED: function 94 (slices_Values_int64_int64)

/-! ### impl_floor: function 95 -/
def impl_floor.f (a0 : Int) (a1 : Int) : Option (Int) := if a1 = 0 then (none) else (if (Int.tmod a0 a1) < 0 then (some (wrap64 ((wrap64 (Int.tdiv a0 a1)) - 1))) else (some (wrap64 (Int.tdiv a0 a1))))
set_option maxHeartbeats 8000000 in
set_option maxRecDepth 100000 in
theorem impl_floor.calls (a0 : Int) (a1 : Int) (r : Int) (w : World) (h : impl_floor.f a0 a1 = some r) :
    Calls Try.prog 95 #[.int .i64 a0, .int .i64 a1] w fun e w' => e = .returned (.int .i64 r) ∧ Drawn0 w w' := by
 have H : (if a1 = 0 then (none) else (if (Int.tmod a0 a1) < 0 then (some (wrap64 ((wrap64 (Int.tdiv a0 a1)) - 1))) else (some (wrap64 (Int.tdiv a0 a1))))) = some r := h; clear h; obtain ⟨c3, H⟩ := sqJ H; have c3b0 : (a1 == 0) = false := beq_eq_false_iff_ne.mpr c3; have c3b1 : (a1 != 0) = true := bne_iff_ne.mpr c3; by_cases c4 : (Int.tmod a0 a1) < 0
 ·rw [if_pos c4] at H; have c4b0 : decide ((Int.tmod a0 a1) < 0) = true := decide_eq_true c4; clear c4; obtain rfl := Option.some.inj H; go_enter Try.func95, Try.ntmps95; go_wp2; go_ret; exact ⟨zq4, zq6⟩
 rw [if_neg c4] at H; have c4b0 : decide ((Int.tmod a0 a1) < 0) = false := decide_eq_false c4; clear c4; obtain rfl := Option.some.inj H; go_enter Try.func95, Try.ntmps95; go_wp2; go_ret; exact ⟨zq4, zq6⟩

end Go.Proofs.Ytlhpejabdmejbaa.PFnExactSystematicMixture
