/- Written by this session's program (wip/tool/xprint.py) over the kit's printer. -/
import Derived.Test.YtlhpejabdmejbaaPFnMeansx0
namespace Go.Proofs.Ytlhpejabdmejbaa.PFnMeans
open Go.RowKit Go.Proofs.YtlhpejabdmejbaaW.PrintWords Go.Proofs.YtlhpejabdmejbaaW.PrintLast Go.Proofs.YtlhpejabdmejbaaW.PrintMore
attribute [local go_sem] max2_int min2_int max_two min_two max_three min_three max_four min_four   -- for this text's walks alone
set_option linter.unusedVariables false
set_option linter.unusedSimpArgs false

/-! ### slices_Equal_int64_int64: function 113 -/
def slices_Equal_int64_int64.l0 : Nat → List Int → List Int → Int → Int → Option (Bool)
  | 0, _, _, _, _ => none
  | k + 1, x0, x1, x12, x13 => if x13 < x12 then (if 0 ≤ x13 then (if x13 < (x0.length : Int) then (if x13 < (x1.length : Int) then (if (rd x0 x13) = (rd x1 x13) then (slices_Equal_int64_int64.l0 k x0 x1 x12 (wrap64 (x13 + 1))) else (some false)) else (none)) else (none)) else (none)) else (some true)
def slices_Equal_int64_int64.f (k : Nat) (l0 : List Int) (l1 : List Int) : Option (Bool) := if (l0.length : Int) = (l1.length : Int) then (slices_Equal_int64_int64.l0 k l0 l1 (l0.length : Int) 0) else (some false)
theorem slices_Equal_int64_int64.mono_l : ∀ k, (∀ y0 y1 y2 y3, LeO (slices_Equal_int64_int64.l0 k y0 y1 y2 y3) (slices_Equal_int64_int64.l0 (k + 1) y0 y1 y2 y3))
  | 0 => fun _ _ _ _ r h => by simp [slices_Equal_int64_int64.l0] at h
  | k + 1 => by
   have ih0 := slices_Equal_int64_int64.mono_l k
   intros
   unfold slices_Equal_int64_int64.l0
   all_goals repeat' first | (with_reducible first | apply ih0 | exact LeO.refl _ | exact LeO.none _ | refine LeO.ite ?_ ?_ | refine LeO.bind ?_ (fun _ => ?_)) | apply ih0 | exact LeO.none _ | refine LeO.ite ?_ ?_ | refine LeO.bind ?_ (fun _ => ?_)
theorem slices_Equal_int64_int64.mono : ∀ a0 a1 k, LeO (slices_Equal_int64_int64.f k a0 a1) (slices_Equal_int64_int64.f (k + 1) a0 a1) := by
  intro a0 a1 k
  have ih0 := slices_Equal_int64_int64.mono_l k
  unfold slices_Equal_int64_int64.f
  repeat' first | (with_reducible first | apply ih0 | exact LeO.refl _ | exact LeO.none _ | refine LeO.ite ?_ ?_ | refine LeO.bind ?_ (fun _ => ?_)) | apply ih0 | exact LeO.none _ | refine LeO.ite ?_ ?_ | refine LeO.bind ?_ (fun _ => ?_)
set_option maxHeartbeats 8000000 in
set_option maxRecDepth 100000 in
theorem slices_Equal_int64_int64.calls (k : Nat) (A0 : Option Addr) (c0 : Nat) (l0 : List Int) (A1 : Option Addr) (c1 : Nat) (l1 : List Int) (r : Bool) (w : World) (hr0 : Kd.C (Kd.int .i64) w A0 l0.length l0) (hc0 : l0.length ≤ c0) (hr1 : Kd.C (Kd.int .i64) w A1 l1.length l1) (hc1 : l1.length ≤ c1) (h : slices_Equal_int64_int64.f k l0 l1 = some r) :
    Calls Try.prog 113 #[.slice A0 l0.length c0, .slice A1 l1.length c1] w fun e w' => e = .returned (.bool r) ∧ Drawn0 w w' := by
 have HR0 := mA hr0; have HC0 := mA hc0; clear hr0 hc0; have HR1 := mA hr1; have HC1 := mA hc1; clear hr1 hc1; have H : (if (l0.length : Int) = (l1.length : Int) then (slices_Equal_int64_int64.l0 k l0 l1 (l0.length : Int) 0) else (some false)) = some r := h; clear h; refine sqC ((l0.length : Int) = (l1.length : Int)) (fun c3 => ?_) (fun c3 => ?_)
 ·rw [if_neg c3] at H; have c3b0 : ((l0.length : Int) == (l1.length : Int)) = false := beq_eq_false_iff_ne.mpr c3; have c3b1 : ((l0.length : Int) != (l1.length : Int)) = true := bne_iff_ne.mpr c3
  have c3b2 : (l0.length == l1.length) = false := by first | simpa using c3 | (simp at c3 ⊢; omega)
  obtain rfl := Option.some.inj H; go_enter Try.func113, Try.ntmps113; go_wp2
  repeat (go_quiet (fail); try go_wp2)
  go_ret; exact ⟨zq3, zq10⟩
 rw [if_pos c3] at H; have c3b0 : ((l0.length : Int) == (l1.length : Int)) = true := beq_iff_eq.mpr c3; have c3b1 : ((l0.length : Int) != (l1.length : Int)) = false := bne_eq_false_iff_eq.mpr c3
 have c3b2 : (l0.length == l1.length) = true := by first | simpa using c3 | (simp at c3 ⊢; omega)
 clear c3; have H' := mA H; clear H; go_enter Try.func113, Try.ntmps113; go_wp2
 repeat (go_quiet (fail); try go_wp2)
 go_loopg [13] k (fun kq v13 w' => ∃ (x13_1 : Int), v13 = .int .i64 x13_1 ∧ Aside0 (slices_Equal_int64_int64.l0 kq l0 l1 (l0.length : Int) x13_1 = some r) ∧ Aside0 (kq ≤ k) ∧ Drawn0 w w')
 case atStart => exact ⟨(0), zq3, H', ⟨Nat.le_refl _⟩, zq10⟩
 case round =>
  clear H'; (try clear c1); (try clear c3); (try clear c3b0); (try clear c3b1); (try clear c3b2); obtain ⟨x13_1, rfl, HA, HK1, ⟨m1, rfl⟩⟩ := hrel
  cases gk with
  | zero => exact absurd HA.out (by simp [slices_Equal_int64_int64.l0])
  | succ k1 =>
   have H := HA.out; clear HA; simp only [slices_Equal_int64_int64.l0] at H; refine sqC (x13_1 < (l0.length : Int)) (fun c4 => ?_) (fun c4 => ?_)
   ·rw [if_neg c4] at H; replace c4 := decide_eq_false c4; obtain rfl := Option.some.inj H; go_wp2
    repeat (go_quiet (fail); try go_wp2)
    go_ret; exact ⟨zq3, zq10⟩
   rw [if_pos c4] at H; replace c4 := decide_eq_true c4; obtain ⟨c5, H⟩ := sqI H; replace c5 := decide_eq_true c5; obtain ⟨c6, H⟩ := sqI H; replace c6 := decide_eq_true c6; obtain ⟨c7, H⟩ := sqI H; replace c7 := decide_eq_true c7; refine sqC ((rd l0 x13_1) = (rd l1 x13_1)) (fun c8 => ?_) (fun c8 => ?_)
   ·rw [if_neg c8] at H; have c8b0 : ((rd l0 x13_1) == (rd l1 x13_1)) = false := beq_eq_false_iff_ne.mpr c8; have c8b1 : ((rd l0 x13_1) != (rd l1 x13_1)) = true := bne_iff_ne.mpr c8; obtain rfl := Option.some.inj H; have p157 : 0 ≤ (x13_1 : Int) := sqd; have q157 : x13_1 < (l0.length : Int) := sqd; obtain ⟨ad157, e157, hx157_0⟩ := Kd.at_int HR0.out x13_1 p157 q157
    cases e157
    replace p157 := eq_true p157; replace q157 := eq_true q157; have p158 : 0 ≤ (x13_1 : Int) := sqd; have q158 : x13_1 < (l1.length : Int) := sqd; obtain ⟨ad158, e158, hx158_0⟩ := Kd.at_int HR1.out x13_1 p158 q158
    cases e158
    replace p158 := eq_true p158; replace q158 := eq_true q158; go_wp2
    repeat (go_quiet (fail); try go_wp2)
    go_ret; exact ⟨zq3, zq10⟩
   rw [if_pos c8] at H; have c8b0 : ((rd l0 x13_1) == (rd l1 x13_1)) = true := beq_iff_eq.mpr c8; have c8b1 : ((rd l0 x13_1) != (rd l1 x13_1)) = false := bne_eq_false_iff_eq.mpr c8; clear c8; have H' := mA H; clear H; have p157 : 0 ≤ (x13_1 : Int) := sqd; have q157 : x13_1 < (l0.length : Int) := sqd; obtain ⟨ad157, e157, hx157_0⟩ := Kd.at_int HR0.out x13_1 p157 q157
   cases e157
   replace p157 := eq_true p157; replace q157 := eq_true q157; have p158 : 0 ≤ (x13_1 : Int) := sqd; have q158 : x13_1 < (l1.length : Int) := sqd; obtain ⟨ad158, e158, hx158_0⟩ := Kd.at_int HR1.out x13_1 p158 q158
   cases e158
   replace p158 := eq_true p158; replace q158 := eq_true q158; go_wp2
   repeat (go_quiet (fail); try go_wp2)
   go_roundg k1
   case measure => have := HK1.out; omega
   case rel => exact ⟨(wrap64 (x13_1 + 1)), zq3, H', ⟨zq22 HK1⟩, zq10⟩

-- told with its function values: function 112 (impl_ValidMixture_1)

/-! ### impl_ValidMixture_1: function 112 -/
def impl_ValidMixture_1.f (k : Nat) (l0 : List Int) (l1_0 : List Int) : Option (Bool) := (slices_Equal_int64_int64.f k l0 l1_0).bind fun t159 => (some t159)
theorem impl_ValidMixture_1.mono : ∀ a0 a1 k, LeO (impl_ValidMixture_1.f k a0 a1) (impl_ValidMixture_1.f (k + 1) a0 a1) := by
  intro a0 a1 k
  unfold impl_ValidMixture_1.f
  repeat' first | (with_reducible first | apply slices_Equal_int64_int64.mono | exact LeO.refl _ | exact LeO.none _ | refine LeO.ite ?_ ?_ | refine LeO.bind ?_ (fun _ => ?_)) | apply slices_Equal_int64_int64.mono | exact LeO.none _ | refine LeO.ite ?_ ?_ | refine LeO.bind ?_ (fun _ => ?_)
set_option maxHeartbeats 8000000 in
set_option maxRecDepth 100000 in
theorem impl_ValidMixture_1.calls (k : Nat) (A0 : Option Addr) (c0 : Nat) (l0 : List Int) (gv1_0_ : Nat) (A1_0 : Option Addr) (c1_0 : Nat) (l1_0 : List Int) (r : Bool) (w : World) (hr0 : Kd.C (Kd.int .i64) w A0 l0.length l0) (hc0 : l0.length ≤ c0) (hbx1_0_ : w.heap[gv1_0_]? = some (.cells #[.slice A1_0 l1_0.length c1_0] 22 (0, 0))) (hr1_0 : Kd.C (Kd.int .i64) w A1_0 l1_0.length l1_0) (hc1_0 : l1_0.length ≤ c1_0) (h : impl_ValidMixture_1.f k l0 l1_0 = some r) :
    Calls Try.prog 112 #[.slice A0 l0.length c0, .pointer (some ⟨gv1_0_, 0, none⟩)] w fun e w' => e = .returned (.bool r) ∧ Below w.heap.size w w' := by
 have HR0 := mA hr0; have HC0 := mA hc0; clear hr0 hc0; have HR1_0 := mA hr1_0; have HC1_0 := mA hc1_0; clear hr1_0 hc1_0; have BK46 := mA hbx1_0_; clear hbx1_0_; have HB := mA (Below.refl w.heap.size w); have H : ((slices_Equal_int64_int64.f k l0 l1_0).bind fun t159 => (some t159)) = some r := h; clear h; obtain ⟨t159, A3, H⟩ := sqB H; obtain rfl := Option.some.inj H; have hcz4_0 := sqZ0 BK46; have hfz4_0 := blk_frozen BK46.out 0; go_enter Try.func112, Try.ntmps112; go_wp2_with (first | (refine sqG 113 (some 6) Try.func113 #[.slice A0 l0.length c0, .slice A1_0 l1_0.length c1_0] (h := ?_); (with_reducible refine (slices_Equal_int64_int64.calls k _ _ l0 _ _ l1_0 t159 _ ?s1 ?s2 ?s3 ?s4 A3.out).mono ?_); (case s1 => exact zq35 HR0); (case s2 => exact HC0.out); (case s3 => exact zq35 HR1_0); (case s4 => exact HC1_0.out); rintro e w' ⟨rfl, ⟨nd, rfl⟩⟩; refine ⟨_, rfl, ?_⟩)); go_ret; exact ⟨zq7, zq1⟩

/-! ### slices_IndexFunc_int64_int64_impl_ValidMixture_1: function 118 -/
def slices_IndexFunc_int64_int64_impl_ValidMixture_1.l0 : Nat → List (List Int) → Int → Int → List Int → Option (Int)
  | 0, _, _, _, _ => none
  | k + 1, x0, x7, x8, x47000 => if x8 < x7 then (if 0 ≤ x8 then (if x8 < (x0.length : Int) then ((impl_ValidMixture_1.f k (rd_L1 x0 x8) x47000).bind fun t161 => (if t161 = true then (some x8) else (slices_IndexFunc_int64_int64_impl_ValidMixture_1.l0 k x0 x7 (wrap64 (x8 + 1)) x47000))) else (none)) else (none)) else (some (-1))
def slices_IndexFunc_int64_int64_impl_ValidMixture_1.f (k : Nat) (l0 : List (List Int)) (l1_0 : List Int) : Option (Int) := slices_IndexFunc_int64_int64_impl_ValidMixture_1.l0 k l0 (l0.length : Int) 0 l1_0
theorem slices_IndexFunc_int64_int64_impl_ValidMixture_1.mono_l : ∀ k, (∀ y0 y1 y2 y3, LeO (slices_IndexFunc_int64_int64_impl_ValidMixture_1.l0 k y0 y1 y2 y3) (slices_IndexFunc_int64_int64_impl_ValidMixture_1.l0 (k + 1) y0 y1 y2 y3))
  | 0 => fun _ _ _ _ r h => by simp [slices_IndexFunc_int64_int64_impl_ValidMixture_1.l0] at h
  | k + 1 => by
   have ih0 := slices_IndexFunc_int64_int64_impl_ValidMixture_1.mono_l k
   intros
   unfold slices_IndexFunc_int64_int64_impl_ValidMixture_1.l0
   all_goals repeat' first | (with_reducible first | apply ih0 | apply impl_ValidMixture_1.mono | exact LeO.refl _ | exact LeO.none _ | refine LeO.ite ?_ ?_ | refine LeO.bind ?_ (fun _ => ?_)) | apply ih0 | apply impl_ValidMixture_1.mono | exact LeO.none _ | refine LeO.ite ?_ ?_ | refine LeO.bind ?_ (fun _ => ?_)
theorem slices_IndexFunc_int64_int64_impl_ValidMixture_1.mono : ∀ a0 a1 k, LeO (slices_IndexFunc_int64_int64_impl_ValidMixture_1.f k a0 a1) (slices_IndexFunc_int64_int64_impl_ValidMixture_1.f (k + 1) a0 a1) := by
  intro a0 a1 k
  have ih0 := slices_IndexFunc_int64_int64_impl_ValidMixture_1.mono_l k
  unfold slices_IndexFunc_int64_int64_impl_ValidMixture_1.f
  repeat' first | (with_reducible first | apply ih0 | apply impl_ValidMixture_1.mono | exact LeO.refl _ | exact LeO.none _ | refine LeO.ite ?_ ?_ | refine LeO.bind ?_ (fun _ => ?_)) | apply ih0 | apply impl_ValidMixture_1.mono | exact LeO.none _ | refine LeO.ite ?_ ?_ | refine LeO.bind ?_ (fun _ => ?_)
set_option maxHeartbeats 8000000 in
set_option maxRecDepth 100000 in
theorem slices_IndexFunc_int64_int64_impl_ValidMixture_1.calls (k : Nat) (A0 : Option Addr) (c0 : Nat) (l0 : List (List Int)) (gv1_0_ : Nat) (A1_0 : Option Addr) (c1_0 : Nat) (l1_0 : List Int) (r : Int) (w : World) (hr0 : Kd.C (Kd.slice 2 (Kd.int .i64)) w A0 l0.length l0) (hc0 : l0.length ≤ c0) (hbx1_0_ : w.heap[gv1_0_]? = some (.cells #[.slice A1_0 l1_0.length c1_0] 22 (0, 0))) (hr1_0 : Kd.C (Kd.int .i64) w A1_0 l1_0.length l1_0) (hc1_0 : l1_0.length ≤ c1_0) (h : slices_IndexFunc_int64_int64_impl_ValidMixture_1.f k l0 l1_0 = some r) :
    Calls Try.prog 118 #[.slice A0 l0.length c0, .func (.func 112) #[] #[.pointer (some ⟨gv1_0_, 0, none⟩)]] w fun e w' => e = .returned (.int .i64 r) ∧ Below w.heap.size w w' := by
 have HR0 := mA hr0; have HC0 := mA hc0; clear hr0 hc0; have HR1_0 := mA hr1_0; have HC1_0 := mA hc1_0; clear hr1_0 hc1_0; have BK46 := mA hbx1_0_; clear hbx1_0_; have HB := mA (Below.refl w.heap.size w); have H : (slices_IndexFunc_int64_int64_impl_ValidMixture_1.l0 k l0 (l0.length : Int) 0 l1_0) = some r := h; clear h; have H' := mA H; clear H; go_enter Try.func118, Try.ntmps118; go_wp2; go_loopg [8] k (fun kq v8 w' => ∃ (x8_1 : Int), v8 = .int .i64 x8_1 ∧ Aside0 (slices_IndexFunc_int64_int64_impl_ValidMixture_1.l0 kq l0 (l0.length : Int) x8_1 l1_0 = some r) ∧ Aside0 (kq ≤ k) ∧ Aside0 (w'.heap[gv1_0_]? = some (.cells #[(.slice A1_0 l1_0.length c1_0)] 22 (0, 0))) ∧ Aside0 (Below w.heap.size w w'))
 case atStart => exact ⟨(0), zq3, H', ⟨Nat.le_refl _⟩, ⟨zq0 BK46⟩, ⟨zq1⟩⟩
 case round =>
  clear H'; obtain ⟨x8_1, rfl, HA, HK1, BK46, HB⟩ := hrel
  cases gk with
  | zero => exact absurd HA.out (by simp [slices_IndexFunc_int64_int64_impl_ValidMixture_1.l0])
  | succ k1 =>
   have H := HA.out; clear HA; simp only [slices_IndexFunc_int64_int64_impl_ValidMixture_1.l0] at H; refine sqC (x8_1 < (l0.length : Int)) (fun c3 => ?_) (fun c3 => ?_)
   ·rw [if_neg c3] at H; replace c3 := decide_eq_false c3; obtain rfl := Option.some.inj H; go_wp2; go_ret; exact ⟨zq7, zq1⟩
   rw [if_pos c3] at H; replace c3 := decide_eq_true c3; obtain ⟨c4, H⟩ := sqI H; replace c4 := decide_eq_true c4; obtain ⟨c5, H⟩ := sqI H; replace c5 := decide_eq_true c5; obtain ⟨t161, A6, H⟩ := sqB H; by_cases c7 : t161 = true
   ·subst c7; rw [if_pos rfl] at H; obtain rfl := Option.some.inj H; have p160 : 0 ≤ (x8_1 : Int) := sqd; have q160 : x8_1 < (l0.length : Int) := sqd; obtain ⟨ad160, A160_0, c160_0, e160, hx160_0, hl160_0, hi160_0⟩ := at_L1 HR0.out x8_1 p160 q160
    cases e160
    replace hx160_0 := sqh HB hx160_0; have HR160_0 := mA hi160_0; have HC160_0 := mA hl160_0; clear hi160_0 hl160_0; replace p160 := eq_true p160; replace q160 := eq_true q160; go_wp2_with (first | (go_at_call 112; (with_reducible refine (impl_ValidMixture_1.calls k1 _ _ (rd_L1 l0 x8_1) gv1_0_ A1_0 c1_0 l1_0 true _ ?s1 ?s2 ?s3 ?s4 ?s5 A6.out).mono ?_); (case s1 => exact zq8 HR160_0); (case s2 => exact HC160_0.out); (case s3 => exact zq19 BK46); (case s4 => exact zq8 HR1_0); (case s5 => exact HC1_0.out); rintro e w8 ⟨rfl, hb⟩; replace BK46 := mA (blk_below (g := gv1_0_) (o := .cells #[.slice A1_0 l1_0.length c1_0] 22 (0, 0)) (zq0 BK46) hb); replace HB := mA (below_step zq1 hb); (try clear hb))); go_ret; exact ⟨zq7, zq1⟩
   replace c7 := Bool.eq_false_iff.mpr c7; subst c7; rw [if_neg (show ¬ (false = true) by decide)] at H; have H' := mA H; clear H; have p160 : 0 ≤ (x8_1 : Int) := sqd; have q160 : x8_1 < (l0.length : Int) := sqd; obtain ⟨ad160, A160_0, c160_0, e160, hx160_0, hl160_0, hi160_0⟩ := at_L1 HR0.out x8_1 p160 q160
   cases e160
   replace hx160_0 := sqh HB hx160_0; have HR160_0 := mA hi160_0; have HC160_0 := mA hl160_0; clear hi160_0 hl160_0; replace p160 := eq_true p160; replace q160 := eq_true q160; go_wp2_with (first | (go_at_call 112; (with_reducible refine (impl_ValidMixture_1.calls k1 _ _ (rd_L1 l0 x8_1) gv1_0_ A1_0 c1_0 l1_0 false _ ?s1 ?s2 ?s3 ?s4 ?s5 A6.out).mono ?_); (case s1 => exact zq8 HR160_0); (case s2 => exact HC160_0.out); (case s3 => exact zq19 BK46); (case s4 => exact zq8 HR1_0); (case s5 => exact HC1_0.out); rintro e w9 ⟨rfl, hb⟩; replace BK46 := mA (blk_below (g := gv1_0_) (o := .cells #[.slice A1_0 l1_0.length c1_0] 22 (0, 0)) (zq0 BK46) hb); replace HB := mA (below_step zq1 hb); (try clear hb))); go_roundg k1
   case measure => have := HK1.out; omega
   case rel => exact ⟨(wrap64 (x8_1 + 1)), zq3, H', ⟨zq22 HK1⟩, ⟨zq0 BK46⟩, ⟨zq1⟩⟩

/-! ### slices_ContainsFunc_int64_int64_impl_ValidMixture_1: function 78 -/
def slices_ContainsFunc_int64_int64_impl_ValidMixture_1.f (k : Nat) (l0 : List (List Int)) (l1_0 : List Int) : Option (Bool) := (slices_IndexFunc_int64_int64_impl_ValidMixture_1.f k l0 l1_0).bind fun t162 => (some (decide (t162 ≥ 0)))
theorem slices_ContainsFunc_int64_int64_impl_ValidMixture_1.mono : ∀ a0 a1 k, LeO (slices_ContainsFunc_int64_int64_impl_ValidMixture_1.f k a0 a1) (slices_ContainsFunc_int64_int64_impl_ValidMixture_1.f (k + 1) a0 a1) := by
  intro a0 a1 k
  unfold slices_ContainsFunc_int64_int64_impl_ValidMixture_1.f
  repeat' first | (with_reducible first | apply slices_IndexFunc_int64_int64_impl_ValidMixture_1.mono | exact LeO.refl _ | exact LeO.none _ | refine LeO.ite ?_ ?_ | refine LeO.bind ?_ (fun _ => ?_)) | apply slices_IndexFunc_int64_int64_impl_ValidMixture_1.mono | exact LeO.none _ | refine LeO.ite ?_ ?_ | refine LeO.bind ?_ (fun _ => ?_)
set_option maxHeartbeats 8000000 in
set_option maxRecDepth 100000 in
theorem slices_ContainsFunc_int64_int64_impl_ValidMixture_1.calls (k : Nat) (A0 : Option Addr) (c0 : Nat) (l0 : List (List Int)) (gv1_0_ : Nat) (A1_0 : Option Addr) (c1_0 : Nat) (l1_0 : List Int) (r : Bool) (w : World) (hr0 : Kd.C (Kd.slice 2 (Kd.int .i64)) w A0 l0.length l0) (hc0 : l0.length ≤ c0) (hbx1_0_ : w.heap[gv1_0_]? = some (.cells #[.slice A1_0 l1_0.length c1_0] 22 (0, 0))) (hr1_0 : Kd.C (Kd.int .i64) w A1_0 l1_0.length l1_0) (hc1_0 : l1_0.length ≤ c1_0) (h : slices_ContainsFunc_int64_int64_impl_ValidMixture_1.f k l0 l1_0 = some r) :
    Calls Try.prog 78 #[.slice A0 l0.length c0, .func (.func 112) #[] #[.pointer (some ⟨gv1_0_, 0, none⟩)]] w fun e w' => e = .returned (.bool r) ∧ Below w.heap.size w w' := by
 have HR0 := mA hr0; have HC0 := mA hc0; clear hr0 hc0; have HR1_0 := mA hr1_0; have HC1_0 := mA hc1_0; clear hr1_0 hc1_0; have BK46 := mA hbx1_0_; clear hbx1_0_; have HB := mA (Below.refl w.heap.size w); have H : ((slices_IndexFunc_int64_int64_impl_ValidMixture_1.f k l0 l1_0).bind fun t162 => (some (decide (t162 ≥ 0)))) = some r := h; clear h; obtain ⟨t162, A3, H⟩ := sqB H; obtain rfl := Option.some.inj H; go_enter Try.func78, Try.ntmps78; go_wp2_with (first | (refine sqG 118 (some 7) Try.func118 #[.slice A0 l0.length c0, .func (.func 112) #[] #[.pointer (some ⟨gv1_0_, 0, none⟩)]] (h := ?_); (with_reducible refine (slices_IndexFunc_int64_int64_impl_ValidMixture_1.calls k _ _ l0 gv1_0_ A1_0 c1_0 l1_0 t162 _ ?s1 ?s2 ?s3 ?s4 ?s5 A3.out).mono ?_); (case s1 => exact zq35 HR0); (case s2 => exact HC0.out); (case s3 => exact zq19 BK46); (case s4 => exact zq35 HR1_0); (case s5 => exact HC1_0.out); rintro e w4 ⟨rfl, hb⟩; refine ⟨_, rfl, ?_⟩; replace BK46 := mA (blk_below (g := gv1_0_) (o := .cells #[.slice A1_0 l1_0.length c1_0] 22 (0, 0)) (zq0 BK46) hb); replace HB := mA (below_step zq1 hb); (try clear hb))); go_ret; exact ⟨zq7, zq1⟩

end Go.Proofs.Ytlhpejabdmejbaa.PFnMeans
