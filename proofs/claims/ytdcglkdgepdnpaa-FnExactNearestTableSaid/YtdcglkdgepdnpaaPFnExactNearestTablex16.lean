/- Written by this session's program (wip/tool/xprint.py) over the kit's printer. -/
import Derived.Test.YtdcglkdgepdnpaaPFnExactNearestTablex0
namespace Go.Proofs.Ytdcglkdgepdnpaa.PFnExactNearestTable
open Go.RowKit Go.Proofs.YtdcglkdgepdnpaaW.PrintWords Go.Proofs.YtdcglkdgepdnpaaW.PrintLast Go.Proofs.YtdcglkdgepdnpaaW.PrintMore
attribute [local go_sem] max2_int min2_int max_two min_two max_three min_three max_four min_four   -- for this text's walks alone
set_option linter.unusedVariables false
set_option linter.unusedSimpArgs false

-- told with its function values: function 23 (impl_eachTable)

/-! ### impl_greatest: function 50 -/
def impl_greatest.l0 : Nat → Int → List Int → Int → Int → Option (Int)
  | 0, _, _, _, _ => none
  | k + 1, x3, x6, x7, x8 => if x8 < x7 then (if 0 ≤ x8 then (if x8 < (x6.length : Int) then (impl_greatest.l0 k (mx (mx x3 (rd x6 x8)) (wrap64 (-(rd x6 x8)))) x6 x7 (wrap64 (x8 + 1))) else (none)) else (none)) else (some x3)
def impl_greatest.f (k : Nat) (l0 : List Int) : Option (Int) := impl_greatest.l0 k 0 l0 (l0.length : Int) 0
theorem impl_greatest.mono_l : ∀ k, (∀ y0 y1 y2 y3, LeO (impl_greatest.l0 k y0 y1 y2 y3) (impl_greatest.l0 (k + 1) y0 y1 y2 y3))
  | 0 => fun _ _ _ _ r h => by simp [impl_greatest.l0] at h
  | k + 1 => by
   have ih0 := impl_greatest.mono_l k
   intros
   unfold impl_greatest.l0
   all_goals repeat' first | (with_reducible first | apply ih0 | exact LeO.refl _ | exact LeO.none _ | refine LeO.ite ?_ ?_ | refine LeO.bind ?_ (fun _ => ?_)) | apply ih0 | exact LeO.none _ | refine LeO.ite ?_ ?_ | refine LeO.bind ?_ (fun _ => ?_)
theorem impl_greatest.mono : ∀ a0 k, LeO (impl_greatest.f k a0) (impl_greatest.f (k + 1) a0) := by
  intro a0 k
  have ih0 := impl_greatest.mono_l k
  unfold impl_greatest.f
  repeat' first | (with_reducible first | apply ih0 | exact LeO.refl _ | exact LeO.none _ | refine LeO.ite ?_ ?_ | refine LeO.bind ?_ (fun _ => ?_)) | apply ih0 | exact LeO.none _ | refine LeO.ite ?_ ?_ | refine LeO.bind ?_ (fun _ => ?_)
set_option maxHeartbeats 8000000 in
set_option maxRecDepth 100000 in
theorem impl_greatest.calls (k : Nat) (A0 : Option Addr) (c0 : Nat) (l0 : List Int) (r : Int) (w : World) (hr0 : Kd.C (Kd.int .i64) w A0 l0.length l0) (hc0 : l0.length ≤ c0) (h : impl_greatest.f k l0 = some r) :
    Calls Try.prog 50 #[.slice A0 l0.length c0] w fun e w' => e = .returned (.int .i64 r) ∧ Below w.heap.size w w' := by
 have HR0 := mA hr0; have HC0 := mA hc0; clear hr0 hc0; have HB := mA (Below.refl w.heap.size w); have H : (impl_greatest.l0 k 0 l0 (l0.length : Int) 0) = some r := h; clear h; have H' := mA H; clear H; go_enter Try.func50, Try.ntmps50; go_wp2; go_loopg [3, 8] k (fun kq v3 v8 w' => ∃ (x3_1 : Int) (x8_1 : Int), v3 = .int .i64 x3_1 ∧ v8 = .int .i64 x8_1 ∧ Aside0 (impl_greatest.l0 kq x3_1 l0 (l0.length : Int) x8_1 = some r) ∧ Aside0 (kq ≤ k) ∧ Aside0 (Below w.heap.size w w'))
 case atStart => exact ⟨(0), (0), zq4, zq4, H', ⟨Nat.le_refl _⟩, ⟨zq3⟩⟩
 case round =>
  clear H'; obtain ⟨x3_1, x8_1, rfl, rfl, HA, HK1, HB⟩ := hrel
  cases gk with
  | zero => exact absurd HA.out (by simp [impl_greatest.l0])
  | succ k1 =>
   have H := HA.out; clear HA; simp only [impl_greatest.l0] at H; refine sqC (x8_1 < (l0.length : Int)) (fun c2 => ?_) (fun c2 => ?_)
   ·rw [if_neg c2] at H; have c2b0 : decide (x8_1 < (l0.length : Int)) = false := decide_eq_false c2; clear c2; obtain rfl := Option.some.inj H; go_wp2; go_ret; exact ⟨zq6, zq3⟩
   rw [if_pos c2] at H; have c2b0 : decide (x8_1 < (l0.length : Int)) = true := decide_eq_true c2; clear c2; obtain ⟨c3, H⟩ := sqI H; have c3b0 : decide (0 ≤ x8_1) = true := decide_eq_true c3; clear c3; obtain ⟨c4, H⟩ := sqI H; have c4b0 : decide (x8_1 < (l0.length : Int)) = true := decide_eq_true c4; clear c4; obtain ⟨ji5, hji5⟩ : ∃ j_ : Int, (mx x3_1 (rd l0 x8_1)) = j_ := ⟨_, rfl⟩
   replace H : (impl_greatest.l0 k1 (mx (ji5) (wrap64 (-(rd l0 x8_1)))) l0 (l0.length : Int) (wrap64 (x8_1 + 1))) = some r := by first | (rw [hji5] at H; exact H) | (simp only [hji5] at H ⊢; exact H)
   have hji5_ : (if x3_1 < (rd l0 x8_1) then (rd l0 x8_1) else x3_1) = ji5 := hji5; obtain ⟨ji6, hji6⟩ : ∃ j_ : Int, (mx (ji5) (wrap64 (-(rd l0 x8_1)))) = j_ := ⟨_, rfl⟩
   replace H : (impl_greatest.l0 k1 ji6 l0 (l0.length : Int) (wrap64 (x8_1 + 1))) = some r := by first | (rw [hji6] at H; exact H) | (simp only [hji6] at H ⊢; exact H)
   have hji6_ : (if (ji5) < (wrap64 (-(rd l0 x8_1))) then (wrap64 (-(rd l0 x8_1))) else (ji5)) = ji6 := hji6; have H' := mA H; clear H; have p357 : 0 ≤ (x8_1 : Int) := sqd; have q357 : x8_1 < (l0.length : Int) := sqd; obtain ⟨ad357, e357, hx357_0⟩ := Kd.at_int HR0.out x8_1 p357 q357
   cases e357
   replace hx357_0 := sqh HB hx357_0; replace p357 := eq_true p357; replace q357 := eq_true q357; go_wp2; go_roundg k1
   case measure => have := HK1.out; omega
   case rel => exact ⟨(ji6), (wrap64 (x8_1 + 1)), (by first | rfl | (simp; done) | (simp only [← hji6] <;> (first | rfl | simp)) | (simp [*]; done)), zq4, H', ⟨zq25 HK1⟩, ⟨zq3⟩⟩

/-! ### impl_normOf: function 28 -/
def impl_normOf.l0 : Nat → Int → Int → List Int → Int → Int → Option (Int)
  | 0, _, _, _, _, _ => none
  | k + 1, x1, x5, x12, x13, x14 => if x14 < x13 then (if 0 ≤ x14 then (if x14 < (x12.length : Int) then (if x1 = 0 then (impl_normOf.l0 k x1 (wrap64 (x5 + (mx (rd x12 x14) (wrap64 (-(rd x12 x14)))))) x12 x13 (wrap64 (x14 + 1))) else (impl_normOf.l0 k x1 (wrap64 (x5 + (wrap64 ((rd x12 x14) * (rd x12 x14))))) x12 x13 (wrap64 (x14 + 1)))) else (none)) else (none)) else (some x5)
def impl_normOf.f (k : Nat) (l0 : List Int) (a1 : Int) : Option (Int) := if a1 = 2 then ((impl_greatest.f k l0).bind fun t358 => (some t358)) else (impl_normOf.l0 k a1 0 l0 (l0.length : Int) 0)
theorem impl_normOf.mono_l : ∀ k, (∀ y0 y1 y2 y3 y4, LeO (impl_normOf.l0 k y0 y1 y2 y3 y4) (impl_normOf.l0 (k + 1) y0 y1 y2 y3 y4))
  | 0 => fun _ _ _ _ _ r h => by simp [impl_normOf.l0] at h
  | k + 1 => by
   have ih0 := impl_normOf.mono_l k
   intros
   unfold impl_normOf.l0
   all_goals repeat' first | (with_reducible first | apply ih0 | apply impl_greatest.mono | exact LeO.refl _ | exact LeO.none _ | refine LeO.ite ?_ ?_ | refine LeO.bind ?_ (fun _ => ?_)) | apply ih0 | apply impl_greatest.mono | exact LeO.none _ | refine LeO.ite ?_ ?_ | refine LeO.bind ?_ (fun _ => ?_)
theorem impl_normOf.mono : ∀ a0 a1 k, LeO (impl_normOf.f k a0 a1) (impl_normOf.f (k + 1) a0 a1) := by
  intro a0 a1 k
  have ih0 := impl_normOf.mono_l k
  unfold impl_normOf.f
  repeat' first | (with_reducible first | apply ih0 | apply impl_greatest.mono | exact LeO.refl _ | exact LeO.none _ | refine LeO.ite ?_ ?_ | refine LeO.bind ?_ (fun _ => ?_)) | apply ih0 | apply impl_greatest.mono | exact LeO.none _ | refine LeO.ite ?_ ?_ | refine LeO.bind ?_ (fun _ => ?_)
set_option maxHeartbeats 8000000 in
set_option maxRecDepth 100000 in
theorem impl_normOf.calls (k : Nat) (A0 : Option Addr) (c0 : Nat) (l0 : List Int) (a1 : Int) (r : Int) (w : World) (hr0 : Kd.C (Kd.int .i64) w A0 l0.length l0) (hc0 : l0.length ≤ c0) (h : impl_normOf.f k l0 a1 = some r) :
    Calls Try.prog 28 #[.slice A0 l0.length c0, .int .i64 a1] w fun e w' => e = .returned (.int .i64 r) ∧ Below w.heap.size w w' := by
 have HR0 := mA hr0; have HC0 := mA hc0; clear hr0 hc0; have HB := mA (Below.refl w.heap.size w); have H : (if a1 = 2 then ((impl_greatest.f k l0).bind fun t358 => (some t358)) else (impl_normOf.l0 k a1 0 l0 (l0.length : Int) 0)) = some r := h; clear h; by_cases c3 : a1 = 2
 ·rw [if_pos c3] at H; have c3b0 : (a1 == 2) = true := beq_iff_eq.mpr c3; have c3b1 : (a1 != 2) = false := bne_eq_false_iff_eq.mpr c3; clear c3; obtain ⟨t358, A4, H⟩ := sqB H; obtain rfl := Option.some.inj H; go_enter Try.func28, Try.ntmps28; go_wp2_with (first | (refine sqG 50 (some 11) Try.func50 #[.slice A0 l0.length c0] (h := ?_); (with_reducible refine (impl_greatest.calls k _ _ l0 t358 _ ?s1 ?s2 A4.out).mono ?_); (case s1 => exact zq22 HR0); (case s2 => exact HC0.out); rintro e w5 ⟨rfl, hb⟩; refine ⟨_, rfl, ?_⟩; replace HB := mA (below_step zq3 hb); (try clear hb))); go_ret; exact ⟨zq6, zq3⟩
 rw [if_neg c3] at H; have c3b0 : (a1 == 2) = false := beq_eq_false_iff_ne.mpr c3; have c3b1 : (a1 != 2) = true := bne_iff_ne.mpr c3; have H' := mA H; clear H; go_enter Try.func28, Try.ntmps28; go_wp2; go_loopg [5, 14] k (fun kq v5 v14 w' => ∃ (x5_1 : Int) (x14_1 : Int), v5 = .int .i64 x5_1 ∧ v14 = .int .i64 x14_1 ∧ Aside0 (impl_normOf.l0 kq a1 x5_1 l0 (l0.length : Int) x14_1 = some r) ∧ Aside0 (kq ≤ k) ∧ Aside0 (Below w.heap.size w w'))
 case atStart => exact ⟨(0), (0), zq4, zq4, H', ⟨Nat.le_refl _⟩, ⟨zq3⟩⟩
 case round =>
  clear H'; (try clear c3); (try clear c3b0); (try clear c3b1); obtain ⟨x5_1, x14_1, rfl, rfl, HA, HK1, HB⟩ := hrel
  cases gk with
  | zero => exact absurd HA.out (by simp [impl_normOf.l0])
  | succ k1 =>
   have H := HA.out; clear HA; simp only [impl_normOf.l0] at H; refine sqC (x14_1 < (l0.length : Int)) (fun c6 => ?_) (fun c6 => ?_)
   ·rw [if_neg c6] at H; have c6b0 : decide (x14_1 < (l0.length : Int)) = false := decide_eq_false c6; clear c6; obtain rfl := Option.some.inj H; go_wp2; go_ret; exact ⟨zq6, zq3⟩
   rw [if_pos c6] at H; have c6b0 : decide (x14_1 < (l0.length : Int)) = true := decide_eq_true c6; clear c6; obtain ⟨c7, H⟩ := sqI H; replace c7 := decide_eq_true c7; obtain ⟨c8, H⟩ := sqI H; replace c8 := decide_eq_true c8; refine sqC (a1 = 0) (fun c9 => ?_) (fun c9 => ?_)
   ·rw [if_neg c9] at H; have c9b0 : (a1 == 0) = false := beq_eq_false_iff_ne.mpr c9; have c9b1 : (a1 != 0) = true := bne_iff_ne.mpr c9; have H' := mA H; clear H; have p359 : 0 ≤ (x14_1 : Int) := sqd; have q359 : x14_1 < (l0.length : Int) := sqd; obtain ⟨ad359, e359, hx359_0⟩ := Kd.at_int HR0.out x14_1 p359 q359
    cases e359
    replace hx359_0 := sqh HB hx359_0; replace p359 := eq_true p359; replace q359 := eq_true q359; go_wp2; go_roundg k1
    case measure => have := HK1.out; omega
    case rel => exact ⟨(wrap64 (x5_1 + (wrap64 ((rd l0 x14_1) * (rd l0 x14_1))))), (wrap64 (x14_1 + 1)), zq4, zq4, H', ⟨zq25 HK1⟩, ⟨zq3⟩⟩
   rw [if_pos c9] at H; have c9b0 : (a1 == 0) = true := beq_iff_eq.mpr c9; have c9b1 : (a1 != 0) = false := bne_eq_false_iff_eq.mpr c9; clear c9; obtain ⟨ji10, hji10⟩ : ∃ j_ : Int, (mx (rd l0 x14_1) (wrap64 (-(rd l0 x14_1)))) = j_ := ⟨_, rfl⟩
   replace H : (impl_normOf.l0 k1 a1 (wrap64 (x5_1 + (ji10))) l0 (l0.length : Int) (wrap64 (x14_1 + 1))) = some r := by first | (rw [hji10] at H; exact H) | (simp only [hji10] at H ⊢; exact H)
   have hji10_ : (if (rd l0 x14_1) < (wrap64 (-(rd l0 x14_1))) then (wrap64 (-(rd l0 x14_1))) else (rd l0 x14_1)) = ji10 := hji10; have H' := mA H; clear H; have p359 : 0 ≤ (x14_1 : Int) := sqd; have q359 : x14_1 < (l0.length : Int) := sqd; obtain ⟨ad359, e359, hx359_0⟩ := Kd.at_int HR0.out x14_1 p359 q359
   cases e359
   replace hx359_0 := sqh HB hx359_0; replace p359 := eq_true p359; replace q359 := eq_true q359; go_wp2; go_roundg k1
   case measure => have := HK1.out; omega
   case rel => exact ⟨(wrap64 (x5_1 + (ji10))), (wrap64 (x14_1 + 1)), (by first | rfl | (simp; done) | (simp only [← hji10] <;> (first | rfl | simp)) | (simp [*]; done)), zq4, H', ⟨zq25 HK1⟩, ⟨zq3⟩⟩

/-! ### impl_Values_errors: function 29 -/
def impl_Values_errors.l0 : Nat → List Int → List Int → Int → Int → Int → List Int → Option (List Int)
  | 0, _, _, _, _, _, _ => none
  | k + 1, x5, x9, x10, x11, x361000, x361001 => if x11 < x10 then (if 0 ≤ x11 then (if x11 < (x9.length : Int) then (if x11 < (x361001.length : Int) then (if x5.length < 17592186044416 then (impl_Values_errors.l0 k (x5 ++ [wrap64 ((wrap64 (x361000 * (rd x9 x11))) - (rd x361001 x11))]) x9 x10 (wrap64 (x11 + 1)) x361000 x361001) else (none)) else (none)) else (none)) else (none)) else (some x5)
def impl_Values_errors.f (k : Nat) (a0_0 : Int) (l0_1 : List Int) (l1 : List Int) : Option (List Int) := impl_Values_errors.l0 k (([] : List Int)) l1 (l1.length : Int) 0 a0_0 l0_1
theorem impl_Values_errors.mono_l : ∀ k, (∀ y0 y1 y2 y3 y4 y5, LeO (impl_Values_errors.l0 k y0 y1 y2 y3 y4 y5) (impl_Values_errors.l0 (k + 1) y0 y1 y2 y3 y4 y5))
  | 0 => fun _ _ _ _ _ _ r h => by simp [impl_Values_errors.l0] at h
  | k + 1 => by
   have ih0 := impl_Values_errors.mono_l k
   intros
   unfold impl_Values_errors.l0
   all_goals repeat' first | (with_reducible first | apply ih0 | exact LeO.refl _ | exact LeO.none _ | refine LeO.ite ?_ ?_ | refine LeO.bind ?_ (fun _ => ?_)) | apply ih0 | exact LeO.none _ | refine LeO.ite ?_ ?_ | refine LeO.bind ?_ (fun _ => ?_)
theorem impl_Values_errors.mono : ∀ a0 a1 a2 k, LeO (impl_Values_errors.f k a0 a1 a2) (impl_Values_errors.f (k + 1) a0 a1 a2) := by
  intro a0 a1 a2 k
  have ih0 := impl_Values_errors.mono_l k
  unfold impl_Values_errors.f
  repeat' first | (with_reducible first | apply ih0 | exact LeO.refl _ | exact LeO.none _ | refine LeO.ite ?_ ?_ | refine LeO.bind ?_ (fun _ => ?_)) | apply ih0 | exact LeO.none _ | refine LeO.ite ?_ ?_ | refine LeO.bind ?_ (fun _ => ?_)
def impl_Values_errors.T5 : Bool × List (List Nat × List Nat) := (true, [([], []), ([], []), ([1], [1]), ([], []), ([2, 3], [2, 3]), ([], []), ([5], [5]), ([], []), ([6, 7], [6, 7]), ([8], [8]), ([4, 9], [4, 9]), ([10], [10]), ([0, 11], [0, 11]), ([12, 12, 0, 1, 2, 3, 4, 5, 6, 7, 8, 9, 10, 11, 12], [0, 12])])
def impl_Values_errors.B5 : List Nat := [0, 0, 2, 0, 14, 0, 32, 0, 224, 480, 1022, 2046, 4095, 8191]
theorem impl_Values_errors.tab5 : rtab .any (opsOf Try.f29 5) = impl_Values_errors.T5 := by kernel_rfl
theorem impl_Values_errors.bits5 : waitsOk impl_Values_errors.T5.2 impl_Values_errors.B5 = true := by kernel_rfl
set_option maxHeartbeats 8000000 in
set_option maxRecDepth 100000 in
theorem impl_Values_errors.calls (k : Nat) (a0_0 : Int) (A0_1 : Option Addr) (c0_1 : Nat) (l0_1 : List Int) (A1 : Option Addr) (c1 : Nat) (l1 : List Int) (r : List Int) (w : World) (hr0_1 : Kd.C (Kd.int .i64) w A0_1 l0_1.length l0_1) (hc0_1 : l0_1.length ≤ c0_1) (hr1 : Kd.C (Kd.int .i64) w A1 l1.length l1) (hc1 : l1.length ≤ c1) (h : impl_Values_errors.f k a0_0 l0_1 l1 = some r) :
    Calls Try.prog 29 #[.agg #[.int .i64 a0_0, .slice A0_1 l0_1.length c0_1], .slice A1 l1.length c1] w fun e w' => ∃ v0_ : Value, e = .returned (v0_) ∧ Kd.R (Kd.int .i64) 2 w' w.heap.size (fun _ => True) v0_ r ∧ Below w.heap.size w w' := by
 have hu49 := Try.underlying49; have HR0_1 := mA hr0_1; have HC0_1 := mA hc0_1; clear hr0_1 hc0_1; have HR1 := mA hr1; have HC1 := mA hc1; clear hr1 hc1; have HB := mA (Below.refl w.heap.size w); have H : (impl_Values_errors.l0 k (([] : List Int)) l1 (l1.length : Int) 0 a0_0 l0_1) = some r := h; clear h; obtain ⟨y361, hy361⟩ : ∃ y_ : List Int, y_ = (([] : List Int)) := ⟨_, rfl⟩
 replace H : (impl_Values_errors.l0 k y361 l1 (l1.length : Int) 0 a0_0 l0_1) = some r := sqHY hy361 H
 have Ny361 := mA hy361; clear hy361; have H' := mA H; clear H; go_enter Try.func29, Try.ntmps29; go_wp2_with (first | (refine sqX 2 #[.int .i64 a0_0, .slice A0_1 l0_1.length c0_1] 49 ?_; intro gb360 hg w3 hbox hb; have BK360 := mA (hbox); have GW360 := mA ((zq9 : w.heap.size ≤ gb360)); have GE360 := mA ((zq9 : w.heap.size ≤ gb360)); replace HB := mA (below_step zq3 hb); clear hb hbox hg) | ((with_reducible refine gate_dst (N := 8) rfl ?_); refine Kd.R_lit (Kd.int .i64) _ 2 ?hg (N := 8) ?hd (xs := ([] : List Int)) (inner := []) (ok := fun _ => True) (okp := fun _ => True) ?hr ?hp (fun _ hk => hk) trivial (Below.refl _ _) (Nat.le_refl _) (by simp) ?_; (case hd => rfl); (case hg => rfl); (case hr => exact zq12); (case hp => exact (Reps.none _ _)); intro v362 w4 ho5 hb hg_ hnew_; clear hg_ hnew_; (first | rw [← Ny361.out] at ho5 | (simp only [Int.reduceToNat] at ho5; rw [← Ny361.out] at ho5)); have HO363 := mA (Kd.R_lower ho5 (below_size zq1)); replace BK360 := mA (blkb hb BK360.out); replace HB := mA (below_step zq1 hb); clear hb ho5)); go_loopg [5, 11] k (fun kq v5 v11 w' => ∃ (x5_1 : List Int) (x11_1 : Int), v11 = .int .i64 x11_1 ∧ Aside0 (impl_Values_errors.l0 kq x5_1 l1 (l1.length : Int) x11_1 a0_0 l0_1 = some r) ∧ Aside0 (kq ≤ k) ∧ Aside0 (Kd.R (Kd.int .i64) 2 w' w.heap.size (fun _ => True) v5 x5_1) ∧ Aside0 (w'.heap[gb360]? = some (.cells #[.int .i64 a0_0, (.slice A0_1 l0_1.length c0_1)] 49 (0, 0))) ∧ Aside0 (Below w.heap.size w w'))
 case atStart => exact ⟨(y361), (0), zq4, H', ⟨Nat.le_refl _⟩, ⟨zq2 HO363⟩, ⟨zq0 BK360⟩, ⟨zq1⟩⟩
 case round =>
  clear H'; (try clear c1); obtain ⟨x5_1, x11_1, rfl, HA, HK1, HO_5, BK360, HB⟩ := hrel
  cases gk with
  | zero => exact absurd HA.out (by simp [impl_Values_errors.l0])
  | succ k1 =>
   have H := HA.out; clear HA; simp only [impl_Values_errors.l0] at H; refine sqC (x11_1 < (l1.length : Int)) (fun c6 => ?_) (fun c6 => ?_)
   ·rw [if_neg c6] at H; have c6b0 : decide (x11_1 < (l1.length : Int)) = false := decide_eq_false c6; clear c6; obtain rfl := Option.some.inj H; go_wp2; go_ret; exact ⟨_, zq6, zq2 HO_5, zq1⟩
   rw [if_pos c6] at H; have c6b0 : decide (x11_1 < (l1.length : Int)) = true := decide_eq_true c6; clear c6; obtain ⟨c7, H⟩ := sqI H; replace c7 := decide_eq_true c7; obtain ⟨c8, H⟩ := sqI H; replace c8 := decide_eq_true c8; obtain ⟨c9, H⟩ := sqI H; have c9b0 : decide (x11_1 < (l0_1.length : Int)) = true := decide_eq_true c9; clear c9; obtain ⟨c10, H⟩ := sqI H; have LMc10 := mA c10; clear c10; obtain ⟨y366, hy366⟩ : ∃ y_ : List Int, y_ = (x5_1 ++ [wrap64 ((wrap64 (a0_0 * (rd l1 x11_1))) - (rd l0_1 x11_1))]) := ⟨_, rfl⟩
   replace H : (impl_Values_errors.l0 k1 y366 l1 (l1.length : Int) (wrap64 (x11_1 + 1)) a0_0 l0_1) = some r := sqHY hy366 H
   have Ny366 := mA hy366; clear hy366; have H' := mA H; clear H; have p364 : 0 ≤ (x11_1 : Int) := sqd; have q364 : x11_1 < (l1.length : Int) := sqd; obtain ⟨ad364, e364, hx364_0⟩ := Kd.at_int HR1.out x11_1 p364 q364
   cases e364
   replace hx364_0 := sqh HB hx364_0; replace p364 := eq_true p364; replace q364 := eq_true q364; (try go_wp2); replace HO_5 := mA (Kd.R_drew HO_5.out); replace BK360 := mA (blk_drew BK360.out); replace HB := mA (below_drew1 HB.out); have p365 : 0 ≤ (x11_1 : Int) := sqd; have q365 : x11_1 < (l0_1.length : Int) := sqd; obtain ⟨ad365, e365, hx365_0⟩ := Kd.at_int HR0_1.out x11_1 p365 q365; have hw365_0 := hx365_0
   cases e365
   replace hx365_0 := sqh HB hx365_0; replace p365 := eq_true p365; replace q365 := eq_true q365; refine start_ (n := 14) (S := fun w' => w'.cell? ⟨gb360, 0, none⟩ = some (.int .i64 a0_0) ∧ w'.cell? ⟨gb360, 1, none⟩ = some (.slice (some ad365) l0_1.length c0_1) ∧ w'.cell? (ad365.add (x11_1).toNat) = some (.int .i64 (rd l0_1 x11_1))) (ds := []) #[false, false, false, false, false, false, false, false, false, false, false, false, false, false] (by kernel_rfl) rfl rfl ⟨(blk_cell BK360.out 0).trans rfl, (blk_cell BK360.out 1).trans rfl, ((HB.out.cell (World.block_lt_of_cell? w _ hw365_0)).trans hw365_0)⟩ (fun hHeld => ?_); refine with_tabW impl_Values_errors.tab5 impl_Values_errors.bits5 (fun HT_ HW_ => ?_); generalize wr.drew = w11 at HO_5 BK360 HB hx365_0 hHeld ⊢; refine sqr0 0 (some 16) ?_; refine sqr0 1 (some 17) ?_; refine sqr0 3 (some 19) ?_; refine sqr0 5 (some 21) ?_; refine sqr0 7 (some 23) ?_; refine sqr6 2 (some 18) ?_; refine sqr0 4 (some 20) ?_; refine sqr6 6 (some 22) ?_; refine sqr0 8 (some 24) ?_; refine sqr6 9 (some 25) ?_; refine sqr0 10 (some 26) ?_; refine sqr2 11 (some 27) (fun K hK => ?_); refine value_ (w1 := ?_) (v := ?_) (by rfl) rfl ?_ ?_; rotate_left 2
   ·go_simp; constructor
    ·rfl
    ·rfl
   refine hK.out _ _ ⟨(blk_cell (blk_alloc BK360.out _) 0).trans rfl, (blk_cell (blk_alloc BK360.out _) 1).trans rfl, (World.cell?_alloc_lt _ _ _ (World.block_lt_of_cell? _ _ (((HB.out.cell (World.block_lt_of_cell? w _ hw365_0)).trans hw365_0)))).trans (((HB.out.cell (World.block_lt_of_cell? w _ hw365_0)).trans hw365_0))⟩ (fun hHeld => ?_); clear hK K; refine sqr3 ?_; refine sqr2 12 (some 28) (fun K hK => ?_); refine Kd.R_append_step (Kd.int .i64) (w0 := w) w.heap.size (by rfl) (.tmp 16) (.tmp 27) 46 2 (.int .i64 0) 8 rfl Try.underlying46 info2 rfl (by decide) (by omega) u5 x5_1 (wrap64 ((wrap64 (a0_0 * (rd l1 x11_1))) - (rd l0_1 x11_1))) [.int .i64 (wrap64 ((wrap64 (a0_0 * (rd l1 x11_1))) - (rd l0_1 x11_1)))] (fun _ => True) (fun _ => False) rfl rfl ?aP (fun _ hk => hk.elim) ?aF ?aO ?aB ?aS ?aL ?_; (case aP => exact rfl); (case aB => exact zq37); (case aF => exact zq31); (case aO => exact zq35 HO_5); (case aS => exact zq38); (case aL => exact zq25 LMc10); intro v367 w12 ho hb hg hat; rw [← Ny366.out] at ho; replace BK360 := mA (blk_grown (g := gb360) (o := .cells #[.int .i64 a0_0, .slice (some ad365) l0_1.length c0_1] 49 (0, 0)) (zq0 BK360) hg (Kd.R_ne HO_5.out BK360.out (by decide))); replace HB := mA (hb); have HO368 := mA (ho); clear HO_5 ho hb hg hat; refine hK.out _ _ ⟨(blk_cell BK360.out 0).trans rfl, (blk_cell BK360.out 1).trans rfl, ((HB.out.cell (World.block_lt_of_cell? w _ hw365_0)).trans hw365_0)⟩ (fun hHeld => ?_); clear hK K; refine sqr3 ?_; refine sqr0 13 (some 5) ?_; refine done_ (done_of HT_.out (by kernel_rfl)) ?_; (try go_wp2); go_roundg k1
   case measure => have := HK1.out; omega
   case rel => exact ⟨(y366), (wrap64 (x11_1 + 1)), zq4, H', ⟨zq25 HK1⟩, ⟨zq2 HO368⟩, ⟨zq0 BK360⟩, ⟨zq1⟩⟩

/-! ### slices_Clone_int64_int64: function 51 -/
-- given by hand
-- INFO 2
def slices_Clone_int64_int64.f (l0 : List Int) : Option (List Int) := (some (([] : List Int) : List Int)).bind fun y153 => (if y153.length + l0.length < 17592186044416 then (some (y153 ++ l0)) else (none))
set_option maxHeartbeats 8000000 in
set_option maxRecDepth 100000 in
theorem slices_Clone_int64_int64.calls (A0 : Option Addr) (c0 : Nat) (l0 : List Int) (r : List Int) (w : World) (hr0 : Kd.C (Kd.int .i64) w A0 l0.length l0) (hc0 : l0.length ≤ c0) (h : slices_Clone_int64_int64.f l0 = some r) :
    Calls Try.prog 51 #[.slice A0 l0.length c0] w fun e w' => ∃ v0_ : Value, e = .returned (v0_) ∧ Kd.R (Kd.int .i64) 2 w' w.heap.size (fun _ => True) v0_ r ∧ Below w.heap.size w w' := by
 have H : ((some (([] : List Int) : List Int)).bind fun y153 => (if y153.length + l0.length < 17592186044416 then (some (y153 ++ l0)) else (none))) = some r := h; clear h
 have qT : ∀ (w : World) (a : Option Addr) (n c : Nat), (binOp .eql 46 (.slice a n c) (.slice none 0 0)).run Try.prog w = .ok (.bool a.isNone) w := fun w a n c => Lib.run_eql_slice_nil w _ _ a n c 0 0 Try.underlying46
 cases A0 with
 | none =>
  have hl : l0 = [] := by
   cases l0 with
   | nil => rfl
   | cons x xs =>
    obtain ⟨ad, hx, _⟩ := hr0.2.2 (by simp)
    cases hx
  subst hl
  have e : r = [] := by
   have H2 : (some ([] : List Int)) = some r := by simpa using H
   exact (Option.some.inj H2).symm
  subst e; have HB := mA (Below.refl w.heap.size w); go_enter Try.func51, Try.ntmps51; go_wp2; go_ret; exact ⟨_, rfl, Kd.R_nil _ _ _ _ _, zq3⟩
 | some a0 =>
  have HR0 := mA hr0; have HC0 := mA hc0; clear hr0 hc0; have HB := mA (Below.refl w.heap.size w); obtain ⟨y153, hy153⟩ : ∃ y_ : List Int, y_ = (([] : List Int)) := ⟨_, rfl⟩
  replace H : (if y153.length + l0.length < 17592186044416 then (some (y153 ++ l0)) else (none)) = some r := by rw [hy153]; exact H
  have Ny153 := mA hy153; clear hy153; obtain ⟨c2, H⟩ := sqI H; have LMc2 := mA c2; clear c2; obtain ⟨y156, hy156⟩ : ∃ y_ : List Int, y_ = (y153 ++ l0) := ⟨_, rfl⟩
  replace H : (some y156) = some r := by rw [hy156]; exact H
  have Ny156 := mA hy156; clear hy156; obtain rfl := Option.some.inj H; go_enter Try.func51, Try.ntmps51; go_wp2_with (first | ((with_reducible refine gate_dst (N := 5) rfl ?_); refine Kd.R_lit (Kd.int .i64) _ 2 ?hg (N := 5) ?hd (xs := ([] : List Int)) (inner := []) (ok := fun _ => True) (okp := fun _ => True) ?hr ?hp (fun _ hk => hk) trivial (Below.refl _ _) (Nat.le_refl _) (by simp) ?_; (case hd => rfl); (case hg => rfl); (case hr => exact zq12); (case hp => exact (Reps.none _ _)); intro v154 w3 ho4 hb hg_ hnew_; clear hg_ hnew_; (first | rw [← Ny153.out] at ho4 | (simp only [Int.reduceToNat] at ho4; rw [← Ny153.out] at ho4)); have HO155 := mA (Kd.R_lower ho4 (below_size zq3)); replace HB := mA (below_step zq3 hb); clear hb ho4) | ((with_reducible refine gate_builtin (b := .append) (xs := #[.tmp 5, .tmp 6]) rfl ?_); at_builtin; refine Kd.R_append_rows (Kd.int .i64) (w0 := w) w.heap.size rfl (.tmp 5) (.tmp 6) 46 2 (.int .i64 0) 8 rfl Try.underlying46 info2 rfl (by decide) (by omega) v154 y153 l0 _ _ _ (fun _ => True) (fun _ => False) rfl rfl ?aO ?aR (fun _ _ h => h) (fun _ h => h.elim) ?aF ?aB ?aS ?aL ?_; (case aR => exact zq7 HR0); (case aB => exact zq23); (case aF => exact zq31); (case aO => exact zq35 HO155); (case aS => exact zq27); (case aL => exact zq25 LMc2); intro v157 w5 ho hb hg hat; rw [← Ny156.out] at ho; replace HB := mA (hb); have HO158 := mA (ho); clear HO155 ho hb hg hat)); go_ret; exact ⟨_, zq6, zq2 HO158, zq3⟩

/-! ### impl_ownRows: function 30 -/
def impl_ownRows.l0 : Nat → List (List Int) → List (List Int) → Int → Int → Option ((List (List Int)))
  | 0, _, _, _, _ => none
  | k + 1, x3, x7, x8, x9 => if x9 < x8 then (if 0 ≤ x9 then (if x9 < (x7.length : Int) then ((slices_Clone_int64_int64.f (rd_L1 x7 x9)).bind fun t373 => (if x3.length < 5864062014805 then (impl_ownRows.l0 k (x3 ++ [t373]) x7 x8 (wrap64 (x9 + 1))) else (none))) else (none)) else (none)) else (some x3)
def impl_ownRows.f (k : Nat) (l0 : List (List Int)) : Option ((List (List Int))) := impl_ownRows.l0 k (([] : List (List Int))) l0 (l0.length : Int) 0
theorem impl_ownRows.mono_l : ∀ k, (∀ y0 y1 y2 y3, LeO (impl_ownRows.l0 k y0 y1 y2 y3) (impl_ownRows.l0 (k + 1) y0 y1 y2 y3))
  | 0 => fun _ _ _ _ r h => by simp [impl_ownRows.l0] at h
  | k + 1 => by
   have ih0 := impl_ownRows.mono_l k
   intros
   unfold impl_ownRows.l0
   all_goals repeat' first | (with_reducible first | apply ih0 | exact LeO.refl _ | exact LeO.none _ | refine LeO.ite ?_ ?_ | refine LeO.bind ?_ (fun _ => ?_)) | apply ih0 | exact LeO.none _ | refine LeO.ite ?_ ?_ | refine LeO.bind ?_ (fun _ => ?_)
theorem impl_ownRows.mono : ∀ a0 k, LeO (impl_ownRows.f k a0) (impl_ownRows.f (k + 1) a0) := by
  intro a0 k
  have ih0 := impl_ownRows.mono_l k
  unfold impl_ownRows.f
  repeat' first | (with_reducible first | apply ih0 | exact LeO.refl _ | exact LeO.none _ | refine LeO.ite ?_ ?_ | refine LeO.bind ?_ (fun _ => ?_)) | apply ih0 | exact LeO.none _ | refine LeO.ite ?_ ?_ | refine LeO.bind ?_ (fun _ => ?_)
set_option maxHeartbeats 8000000 in
set_option maxRecDepth 100000 in
theorem impl_ownRows.calls (k : Nat) (A0 : Option Addr) (c0 : Nat) (l0 : List (List Int)) (r : List (List Int)) (w : World) (hr0 : Kd.C (Kd.slice 2 (Kd.int .i64)) w A0 l0.length l0) (hc0 : l0.length ≤ c0) (h : impl_ownRows.f k l0 = some r) :
    Calls Try.prog 30 #[.slice A0 l0.length c0] w fun e w' => ∃ v0_ : Value, e = .returned (v0_) ∧ Kd.S (Kd.slice 2 (Kd.int .i64)) 46 w' w.heap.size (fun _ => True) v0_ r ∧ Below w.heap.size w w' := by
 have HR0 := mA hr0; have HC0 := mA hc0; clear hr0 hc0; have HB := mA (Below.refl w.heap.size w); have H : (impl_ownRows.l0 k (([] : List (List Int))) l0 (l0.length : Int) 0) = some r := h; clear h; obtain ⟨y369, hy369⟩ : ∃ y_ : List (List Int), y_ = (([] : List (List Int))) := ⟨_, rfl⟩
 replace H : (impl_ownRows.l0 k y369 l0 (l0.length : Int) 0) = some r := sqHY hy369 H
 have Ny369 := mA hy369; clear hy369; have H' := mA H; clear H; go_enter Try.func30, Try.ntmps30; go_wp2_with (first | ((with_reducible refine gate_dst (N := 6) rfl ?_); refine Kd.S_lit (Kd.slice 2 (Kd.int .i64)) _ 46 ?hg (N := 6) ?hd (xs := ([] : List (List Int))) (inner := []) (ok := fun _ => True) (okp := fun _ => True) ?hr ?hp (fun _ hk => hk) trivial (Below.refl _ _) (Nat.le_refl _) (by simp) ?_; (case hd => rfl); (case hg => rfl); (case hr => exact zq12); (case hp => exact (Reps.none _ _)); intro v370 w2 ho3 hb hg_ hnew_; clear hg_ hnew_; (first | rw [← Ny369.out] at ho3 | (simp only [Int.reduceToNat] at ho3; rw [← Ny369.out] at ho3)); have HO371 := mA (Kd.S_lower ho3 (below_size zq3)); replace HB := mA (below_step zq3 hb); clear hb ho3)); go_loopg [3, 9] k (fun kq v3 v9 w' => ∃ (x3_1 : List (List Int)) (x9_1 : Int), v9 = .int .i64 x9_1 ∧ Aside0 (impl_ownRows.l0 kq x3_1 l0 (l0.length : Int) x9_1 = some r) ∧ Aside0 (kq ≤ k) ∧ Aside0 (Kd.S (Kd.slice 2 (Kd.int .i64)) 46 w' w.heap.size (fun _ => True) v3 x3_1) ∧ Aside0 (Below w.heap.size w w'))
 case atStart => exact ⟨(y369), (0), zq4, H', ⟨Nat.le_refl _⟩, ⟨zq5 HO371⟩, ⟨zq3⟩⟩
 case round =>
  clear H'; obtain ⟨x3_1, x9_1, rfl, HA, HK1, HO_3, HB⟩ := hrel
  cases gk with
  | zero => exact absurd HA.out (by simp [impl_ownRows.l0])
  | succ k1 =>
   have H := HA.out; clear HA; simp only [impl_ownRows.l0] at H; refine sqC (x9_1 < (l0.length : Int)) (fun c4 => ?_) (fun c4 => ?_)
   ·rw [if_neg c4] at H; have c4b0 : decide (x9_1 < (l0.length : Int)) = false := decide_eq_false c4; clear c4; obtain rfl := Option.some.inj H; go_wp2; go_ret; exact ⟨_, zq6, zq5 HO_3, zq3⟩
   rw [if_pos c4] at H; have c4b0 : decide (x9_1 < (l0.length : Int)) = true := decide_eq_true c4; clear c4; obtain ⟨c5, H⟩ := sqI H; replace c5 := decide_eq_true c5; obtain ⟨c6, H⟩ := sqI H; have c6b0 : decide (x9_1 < (l0.length : Int)) = true := decide_eq_true c6; clear c6; obtain ⟨t373, A7, H⟩ := sqB H; obtain ⟨c8, H⟩ := sqI H; have LMc8 := mA c8; clear c8; obtain ⟨y376, hy376⟩ : ∃ y_ : List (List Int), y_ = (x3_1 ++ [t373]) := ⟨_, rfl⟩
   replace H : (impl_ownRows.l0 k1 y376 l0 (l0.length : Int) (wrap64 (x9_1 + 1))) = some r := sqHY hy376 H
   have Ny376 := mA hy376; clear hy376; have H' := mA H; clear H; have p372 : 0 ≤ (x9_1 : Int) := sqd; have q372 : x9_1 < (l0.length : Int) := sqd; obtain ⟨ad372, A372_0, c372_0, e372, hx372_0, hl372_0, hi372_0⟩ := at_L1 HR0.out x9_1 p372 q372
   cases e372
   replace hx372_0 := sqh HB hx372_0; have HR372_0 := mA hi372_0; have HC372_0 := mA hl372_0; clear hi372_0 hl372_0; replace p372 := eq_true p372; replace q372 := eq_true q372; go_wp2_with (first | (refine sqG 51 (some 15) Try.func51 #[.slice A372_0 (rd_L1 l0 x9_1).length c372_0] (h := ?_); (with_reducible refine (slices_Clone_int64_int64.calls _ _ (rd_L1 l0 x9_1) t373 _ ?s1 ?s2 A7.out).mono ?_); (case s1 => exact zq7 HR372_0); (case s2 => exact HC372_0.out); rintro e w9 ⟨v374, rfl, ho0, hb⟩; refine ⟨_, rfl, ?_⟩; replace HO_3 := mA (Kd.S_elder' (zq5 HO_3) (Kd.R_base ho0) hb); have HO375 := mA (Kd.R_lower ho0 (below_size zq3)); replace HB := mA (below_step zq3 hb); (try clear hb ho0); obtain ⟨Ao11, co11, eo11⟩ := Kd.R_slice HO375.out; subst eo11) | ((with_reducible refine gate_builtin (b := .append) (xs := #[.tmp 13, .tmp 16]) rfl ?_); at_builtin; refine Kd.S_append (Kd.slice 2 (Kd.int .i64)) (w0 := w) w.heap.size rfl (.tmp 13) (.tmp 16) 22 46 (.slice none 0 0) 24 rfl Try.underlying22 info46 rfl (by decide) (by omega) u3 x3_1 t373 [.slice Ao11 t373.length co11] (fun _ => True) (fun k_ => some k_ = (.slice Ao11 t373.length co11 : Value).ownBlock) rfl rfl ?aP (fun k_ hk_ => ((Kd.R_mono (ok' := fun k_ => ((fun _ => True)) k_ ∧ some k_ ≠ (u3 : Value).ownBlock) (Kd.R_apart' (HO375.out) (Kd.S_typed HO_3.out) (by decide)) (fun k_ hk => ⟨trivial, hk.2⟩))).1 k_ hk_.symm) ?aF ?aO ?aB ?aS ?aL ?_; (case aP => exact zq77 HO375 HO_3); (case aB => exact zq23); (case aF => exact zq31); (case aO => exact (by (with_reducible repeat (first | apply Kd.S_alloc | apply Kd.S_drewN | apply Kd.S_drew)); exact Kd.S_mono HO_3.out (fun k_ hk => ⟨trivial, fun e_ => hk.2 e_⟩))); (case aS => exact zq27); (case aL => exact zq25 LMc8); intro v377 w10 ho hb hg hat; rw [← Ny376.out] at ho; replace HB := mA (hb); have HO378 := mA (ho); clear HO_3 HO375 ho hb hg hat)); go_roundg k1
   case measure => have := HK1.out; omega
   case rel => exact ⟨(y376), (wrap64 (x9_1 + 1)), zq4, H', ⟨zq25 HK1⟩, ⟨zq5 HO378⟩, ⟨zq3⟩⟩

-- told with its function values: function 27 (impl_NearestTable_1)

end Go.Proofs.Ytdcglkdgepdnpaa.PFnExactNearestTable
