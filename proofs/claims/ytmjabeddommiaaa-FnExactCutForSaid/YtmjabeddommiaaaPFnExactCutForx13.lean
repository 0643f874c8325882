/- Written by this session's program (wip/tool/xprint.py) over the kit's printer. -/
import Derived.Test.YtmjabeddommiaaaPFnExactCutForx0
namespace Go.Proofs.Ytmjabeddommiaaa.PFnExactCutFor
open Go.RowKit Go.Proofs.YtmjabeddommiaaaW.PrintWords Go.Proofs.YtmjabeddommiaaaW.PrintLast Go.Proofs.YtmjabeddommiaaaW.PrintMore
attribute [local go_sem] max2_int min2_int max_two min_two max_three min_three max_four min_four   -- for this text's walks alone
set_option linter.unusedVariables false
set_option linter.unusedSimpArgs false

-- told with its function values: function 130 (slices_reverseRangeCmpFunc_int64)

-- told with its function values: function 131 (slices_partialInsertionSortCmpFunc_int64)

-- told with its function values: function 132 (slices_partitionEqualCmpFunc_int64)

-- told with its function values: function 133 (slices_partitionCmpFunc_int64)

-- told with its function values: function 119 (slices_pdqsortCmpFunc_int64)

-- told with its function values: function 107 (slices_SortFunc_int64_int64)

/-! ### cmp_isNaN_int64: function 136 -/
def cmp_isNaN_int64.f (a0 : Int) : Option (Bool) := some (a0 != a0)
set_option maxHeartbeats 8000000 in
set_option maxRecDepth 100000 in
theorem cmp_isNaN_int64.calls (a0 : Int) (r : Bool) (w : World) (h : cmp_isNaN_int64.f a0 = some r) :
    Calls Try.prog 136 #[.int .i64 a0] w fun e w' => e = .returned (.bool r) ∧ Drawn0 w w' := by
 have H : (some (a0 != a0)) = some r := h; clear h; obtain rfl := Option.some.inj H; go_enter Try.func136, Try.ntmps136; go_wp2; go_ret; exact ⟨zq3, zq7⟩

/-! ### cmp_Compare_int64: function 121 -/
def cmp_Compare_int64.f (a0 : Int) (a1 : Int) : Option (Int) := (cmp_isNaN_int64.f a0).bind fun t360 => ((cmp_isNaN_int64.f a1).bind fun t361 => (if t360 = true then (if t361 = true then (some 0) else (some (-1))) else (if t361 = true then (some 1) else (if a0 < a1 then (some (-1)) else (if a0 > a1 then (some 1) else (some 0))))))
set_option maxHeartbeats 8000000 in
set_option maxRecDepth 100000 in
theorem cmp_Compare_int64.calls (a0 : Int) (a1 : Int) (r : Int) (w : World) (h : cmp_Compare_int64.f a0 a1 = some r) :
    Calls Try.prog 121 #[.int .i64 a0, .int .i64 a1] w fun e w' => e = .returned (.int .i64 r) ∧ Drawn0 w w' := by
 have H : ((cmp_isNaN_int64.f a0).bind fun t360 => ((cmp_isNaN_int64.f a1).bind fun t361 => (if t360 = true then (if t361 = true then (some 0) else (some (-1))) else (if t361 = true then (some 1) else (if a0 < a1 then (some (-1)) else (if a0 > a1 then (some 1) else (some 0))))))) = some r := h; clear h; obtain ⟨t360, A3, H⟩ := sqB H; obtain ⟨t361, A4, H⟩ := sqB H; by_cases c5 : t360 = true
 ·subst c5; rw [if_pos rfl] at H; by_cases c6 : t361 = true
  ·subst c6; rw [if_pos rfl] at H; obtain rfl := Option.some.inj H; go_enter Try.func121, Try.ntmps121; go_wp2_with (first | (refine sqG 136 (some 8) Try.func136 #[.int .i64 a0] (h := ?_); (with_reducible refine (cmp_isNaN_int64.calls a0 true _ A3.out).mono ?_); rintro e w' ⟨rfl, ⟨nd, rfl⟩⟩; refine ⟨_, rfl, ?_⟩) | (refine sqG 136 (some 10) Try.func136 #[.int .i64 a1] (h := ?_); (with_reducible refine (cmp_isNaN_int64.calls a1 true _ A4.out).mono ?_); rintro e w' ⟨rfl, ⟨nd, rfl⟩⟩; refine ⟨_, rfl, ?_⟩)); go_ret; exact ⟨zq3, zq7⟩
  replace c6 := Bool.eq_false_iff.mpr c6; subst c6; rw [if_neg (show ¬ (false = true) by decide)] at H; obtain rfl := Option.some.inj H; go_enter Try.func121, Try.ntmps121; go_wp2_with (first | (refine sqG 136 (some 8) Try.func136 #[.int .i64 a0] (h := ?_); (with_reducible refine (cmp_isNaN_int64.calls a0 true _ A3.out).mono ?_); rintro e w' ⟨rfl, ⟨nd, rfl⟩⟩; refine ⟨_, rfl, ?_⟩) | (refine sqG 136 (some 10) Try.func136 #[.int .i64 a1] (h := ?_); (with_reducible refine (cmp_isNaN_int64.calls a1 false _ A4.out).mono ?_); rintro e w' ⟨rfl, ⟨nd, rfl⟩⟩; refine ⟨_, rfl, ?_⟩)); go_ret; exact ⟨zq3, zq7⟩
 replace c5 := Bool.eq_false_iff.mpr c5; subst c5; rw [if_neg (show ¬ (false = true) by decide)] at H; by_cases c7 : t361 = true
 ·subst c7; rw [if_pos rfl] at H; obtain rfl := Option.some.inj H; go_enter Try.func121, Try.ntmps121; go_wp2_with (first | (refine sqG 136 (some 8) Try.func136 #[.int .i64 a0] (h := ?_); (with_reducible refine (cmp_isNaN_int64.calls a0 false _ A3.out).mono ?_); rintro e w' ⟨rfl, ⟨nd, rfl⟩⟩; refine ⟨_, rfl, ?_⟩) | (refine sqG 136 (some 10) Try.func136 #[.int .i64 a1] (h := ?_); (with_reducible refine (cmp_isNaN_int64.calls a1 true _ A4.out).mono ?_); rintro e w' ⟨rfl, ⟨nd, rfl⟩⟩; refine ⟨_, rfl, ?_⟩)); go_ret; exact ⟨zq3, zq7⟩
 replace c7 := Bool.eq_false_iff.mpr c7; subst c7; rw [if_neg (show ¬ (false = true) by decide)] at H; by_cases c8 : a0 < a1
 ·rw [if_pos c8] at H; replace c8 := decide_eq_true c8; obtain rfl := Option.some.inj H; go_enter Try.func121, Try.ntmps121; go_wp2_with (first | (refine sqG 136 (some 8) Try.func136 #[.int .i64 a0] (h := ?_); (with_reducible refine (cmp_isNaN_int64.calls a0 false _ A3.out).mono ?_); rintro e w' ⟨rfl, ⟨nd, rfl⟩⟩; refine ⟨_, rfl, ?_⟩) | (refine sqG 136 (some 10) Try.func136 #[.int .i64 a1] (h := ?_); (with_reducible refine (cmp_isNaN_int64.calls a1 false _ A4.out).mono ?_); rintro e w' ⟨rfl, ⟨nd, rfl⟩⟩; refine ⟨_, rfl, ?_⟩)); go_ret; exact ⟨zq3, zq7⟩
 rw [if_neg c8] at H; replace c8 := decide_eq_false c8; by_cases c9 : a0 > a1
 ·rw [if_pos c9] at H; have c9b0 : decide (a1 < a0) = true := decide_eq_true c9; clear c9; obtain rfl := Option.some.inj H; go_enter Try.func121, Try.ntmps121; go_wp2_with (first | (refine sqG 136 (some 8) Try.func136 #[.int .i64 a0] (h := ?_); (with_reducible refine (cmp_isNaN_int64.calls a0 false _ A3.out).mono ?_); rintro e w' ⟨rfl, ⟨nd, rfl⟩⟩; refine ⟨_, rfl, ?_⟩) | (refine sqG 136 (some 10) Try.func136 #[.int .i64 a1] (h := ?_); (with_reducible refine (cmp_isNaN_int64.calls a1 false _ A4.out).mono ?_); rintro e w' ⟨rfl, ⟨nd, rfl⟩⟩; refine ⟨_, rfl, ?_⟩)); go_ret; exact ⟨zq3, zq7⟩
 rw [if_neg c9] at H; have c9b0 : decide (a1 < a0) = false := decide_eq_false c9; clear c9; obtain rfl := Option.some.inj H; go_enter Try.func121, Try.ntmps121; go_wp2_with (first | (refine sqG 136 (some 8) Try.func136 #[.int .i64 a0] (h := ?_); (with_reducible refine (cmp_isNaN_int64.calls a0 false _ A3.out).mono ?_); rintro e w' ⟨rfl, ⟨nd, rfl⟩⟩; refine ⟨_, rfl, ?_⟩) | (refine sqG 136 (some 10) Try.func136 #[.int .i64 a1] (h := ?_); (with_reducible refine (cmp_isNaN_int64.calls a1 false _ A4.out).mono ?_); rintro e w' ⟨rfl, ⟨nd, rfl⟩⟩; refine ⟨_, rfl, ?_⟩)); go_ret; exact ⟨zq3, zq7⟩

/-! ### slices_Compare_int64_int64: function 108 -/
def slices_Compare_int64_int64.l0 : Nat → List Int → List Int → List Int → Int → Int → Option (Int)
  | 0, _, _, _, _, _ => none
  | k + 1, x0, x1, x9, x10, x11 => if x11 < x10 then (if 0 ≤ x11 then (if x11 < (x9.length : Int) then (if x11 ≥ (x1.length : Int) then (some 1) else (if x11 < (x1.length : Int) then ((cmp_Compare_int64.f (rd x9 x11) (rd x1 x11)).bind fun t364 => (if t364 = 0 then (slices_Compare_int64_int64.l0 k x0 x1 x9 x10 (wrap64 (x11 + 1))) else (some t364))) else (none))) else (none)) else (none)) else (if (x0.length : Int) < (x1.length : Int) then (some (-1)) else (some 0))
def slices_Compare_int64_int64.f (k : Nat) (l0 : List Int) (l1 : List Int) : Option (Int) := slices_Compare_int64_int64.l0 k l0 l1 l0 (l0.length : Int) 0
theorem slices_Compare_int64_int64.mono_l : ∀ k, (∀ y0 y1 y2 y3 y4, LeO (slices_Compare_int64_int64.l0 k y0 y1 y2 y3 y4) (slices_Compare_int64_int64.l0 (k + 1) y0 y1 y2 y3 y4))
  | 0 => fun _ _ _ _ _ r h => by simp [slices_Compare_int64_int64.l0] at h
  | k + 1 => by
   have ih0 := slices_Compare_int64_int64.mono_l k
   intros
   unfold slices_Compare_int64_int64.l0
   all_goals repeat' first | (with_reducible first | apply ih0 | exact LeO.refl _ | exact LeO.none _ | refine LeO.ite ?_ ?_ | refine LeO.bind ?_ (fun _ => ?_)) | apply ih0 | exact LeO.none _ | refine LeO.ite ?_ ?_ | refine LeO.bind ?_ (fun _ => ?_)
theorem slices_Compare_int64_int64.mono : ∀ a0 a1 k, LeO (slices_Compare_int64_int64.f k a0 a1) (slices_Compare_int64_int64.f (k + 1) a0 a1) := by
  intro a0 a1 k
  have ih0 := slices_Compare_int64_int64.mono_l k
  unfold slices_Compare_int64_int64.f
  repeat' first | (with_reducible first | apply ih0 | exact LeO.refl _ | exact LeO.none _ | refine LeO.ite ?_ ?_ | refine LeO.bind ?_ (fun _ => ?_)) | apply ih0 | exact LeO.none _ | refine LeO.ite ?_ ?_ | refine LeO.bind ?_ (fun _ => ?_)
set_option maxHeartbeats 8000000 in
set_option maxRecDepth 100000 in
theorem slices_Compare_int64_int64.calls (k : Nat) (A0 : Option Addr) (c0 : Nat) (l0 : List Int) (A1 : Option Addr) (c1 : Nat) (l1 : List Int) (r : Int) (w : World) (hr0 : Kd.C (Kd.int .i64) w A0 l0.length l0) (hc0 : l0.length ≤ c0) (hr1 : Kd.C (Kd.int .i64) w A1 l1.length l1) (hc1 : l1.length ≤ c1) (h : slices_Compare_int64_int64.f k l0 l1 = some r) :
    Calls Try.prog 108 #[.slice A0 l0.length c0, .slice A1 l1.length c1] w fun e w' => e = .returned (.int .i64 r) ∧ Drawn0 w w' := by
 have HR0 := mA hr0; have HC0 := mA hc0; clear hr0 hc0; have HR1 := mA hr1; have HC1 := mA hc1; clear hr1 hc1; have H : (slices_Compare_int64_int64.l0 k l0 l1 l0 (l0.length : Int) 0) = some r := h; clear h; have H' := mA H; clear H; go_enter Try.func108, Try.ntmps108; go_wp2; go_loopg [11] k (fun kq v11 w' => ∃ (x11_1 : Int), v11 = .int .i64 x11_1 ∧ Aside0 (slices_Compare_int64_int64.l0 kq l0 l1 l0 (l0.length : Int) x11_1 = some r) ∧ Aside0 (kq ≤ k) ∧ Drawn0 w w')
 case atStart => exact ⟨(0), zq3, H', ⟨Nat.le_refl _⟩, zq7⟩
 case round =>
  clear H'; (try clear c1); (try clear p2); obtain ⟨x11_1, rfl, HA, HK1, ⟨m1, rfl⟩⟩ := hrel
  cases gk with
  | zero => exact absurd HA.out (by simp [slices_Compare_int64_int64.l0])
  | succ k1 =>
   have H := HA.out; clear HA; simp only [slices_Compare_int64_int64.l0] at H; refine sqC (x11_1 < (l0.length : Int)) (fun c3 => ?_) (fun c3 => ?_)
   ·rw [if_neg c3] at H; replace c3 := decide_eq_false c3; by_cases c10 : (l0.length : Int) < (l1.length : Int)
    ·rw [if_pos c10] at H; have c10b0 := decide_eq_true c10; have c10b1 : decide (l0.length < l1.length) = true := decide_eq_true (Int.ofNat_lt.mp c10); clear c10; obtain rfl := Option.some.inj H; go_wp2; go_ret; exact ⟨zq3, zq7⟩
    rw [if_neg c10] at H; have c10b0 := decide_eq_false c10; have c10b1 : decide (l0.length < l1.length) = false := decide_eq_false (fun h => c10 (Int.ofNat_lt.mpr h)); clear c10; obtain rfl := Option.some.inj H; go_wp2; go_ret; exact ⟨zq3, zq7⟩
   rw [if_pos c3] at H; replace c3 := decide_eq_true c3; obtain ⟨c4, H⟩ := sqI H; have c4b0 : decide (0 ≤ x11_1) = true := decide_eq_true c4; clear c4; obtain ⟨c5, H⟩ := sqI H; replace c5 := decide_eq_true c5; by_cases c6 : x11_1 ≥ (l1.length : Int)
   ·rw [if_pos c6] at H; have c6b0 : decide ((l1.length : Int) ≤ x11_1) = true := decide_eq_true c6; clear c6; obtain rfl := Option.some.inj H; have p362 : 0 ≤ (x11_1 : Int) := sqd; have q362 : x11_1 < (l0.length : Int) := sqd; obtain ⟨ad362, e362, hx362_0⟩ := Kd.at_int HR0.out x11_1 p362 q362
    cases e362
    replace p362 := eq_true p362; replace q362 := eq_true q362; go_wp2; go_ret; exact ⟨zq3, zq7⟩
   rw [if_neg c6] at H; have c6b0 : decide ((l1.length : Int) ≤ x11_1) = false := decide_eq_false c6; clear c6; obtain ⟨c7, H⟩ := sqI H; replace c7 := decide_eq_true c7; obtain ⟨t364, A8, H⟩ := sqB H; refine sqC (t364 = 0) (fun c9 => ?_) (fun c9 => ?_)
   ·rw [if_neg c9] at H; have c9b0 : (t364 == 0) = false := beq_eq_false_iff_ne.mpr c9; have c9b1 : (t364 != 0) = true := bne_iff_ne.mpr c9; obtain rfl := Option.some.inj H; have p362 : 0 ≤ (x11_1 : Int) := sqd; have q362 : x11_1 < (l0.length : Int) := sqd; obtain ⟨ad362, e362, hx362_0⟩ := Kd.at_int HR0.out x11_1 p362 q362
    cases e362
    replace p362 := eq_true p362; replace q362 := eq_true q362; have p363 : 0 ≤ (x11_1 : Int) := sqd; have q363 : x11_1 < (l1.length : Int) := sqd; obtain ⟨ad363, e363, hx363_0⟩ := Kd.at_int HR1.out x11_1 p363 q363
    cases e363
    replace p363 := eq_true p363; replace q363 := eq_true q363; go_wp2_with (first | (refine sqG 121 (some 26) Try.func121 #[.int .i64 (rd l0 x11_1), .int .i64 (rd l1 x11_1)] (h := ?_); (with_reducible refine (cmp_Compare_int64.calls (rd l0 x11_1) (rd l1 x11_1) t364 _ A8.out).mono ?_); rintro e w' ⟨rfl, ⟨nd, rfl⟩⟩; refine ⟨_, rfl, ?_⟩)); go_ret; exact ⟨zq3, zq7⟩
   rw [if_pos c9] at H; have c9b0 : (t364 == 0) = true := beq_iff_eq.mpr c9; have c9b1 : (t364 != 0) = false := bne_eq_false_iff_eq.mpr c9; clear c9; have H' := mA H; clear H; have p362 : 0 ≤ (x11_1 : Int) := sqd; have q362 : x11_1 < (l0.length : Int) := sqd; obtain ⟨ad362, e362, hx362_0⟩ := Kd.at_int HR0.out x11_1 p362 q362
   cases e362
   replace p362 := eq_true p362; replace q362 := eq_true q362; have p363 : 0 ≤ (x11_1 : Int) := sqd; have q363 : x11_1 < (l1.length : Int) := sqd; obtain ⟨ad363, e363, hx363_0⟩ := Kd.at_int HR1.out x11_1 p363 q363
   cases e363
   replace p363 := eq_true p363; replace q363 := eq_true q363; go_wp2_with (first | (refine sqG 121 (some 26) Try.func121 #[.int .i64 (rd l0 x11_1), .int .i64 (rd l1 x11_1)] (h := ?_); (with_reducible refine (cmp_Compare_int64.calls (rd l0 x11_1) (rd l1 x11_1) t364 _ A8.out).mono ?_); rintro e w' ⟨rfl, ⟨nd, rfl⟩⟩; refine ⟨_, rfl, ?_⟩)); go_roundg k1
   case measure => have := HK1.out; omega
   case rel => exact ⟨(wrap64 (x11_1 + 1)), zq3, H', ⟨by have := HK1.out; omega⟩, zq7⟩

/-! ### impl_subsets: function 82 -/
-- given by hand
def impl_subsets.ren : Go.Shelf.Ren := ⟨fun | 6 => 107 | 15 => 120 | 14 => 119 | 28 => 134 | 29 => 135 | 20 => 126 | 21 => 127 | 22 => 128 | 23 => 129 | 24 => 130 | 25 => 131 | 26 => 132 | 27 => 133 | 46 => 137 | 47 => 138 | 48 => 139 | 49 => 140 | 50 => 141 | 57 => 142 | n => n, fun | 22 => 22 | 24 => 26 | 25 => 107 | 3 => 3 | 39 => 117 | 0 => 0 | 53 => 137 | 55 => 139 | 4 => 4 | 46 => 130 | 45 => 129 | 50 => 134 | 5 => 5 | 9 => 9 | 66 => 140 | 70 => 144 | 76 => 146 | 77 => 147 | n => n, fun | n => n⟩
theorem impl_subsets.lay : Go.Proofs.SlLaysF.n6 Try.prog impl_subsets.ren := {
  mixed := by kernel_rfl,
  f6 := ⟨ "slices.SortFunc[[][]int64,[]int64]", by decide, Try.func107.trans (congrArg some (by kernel_rfl))⟩,
  f14 := ⟨ "slices.pdqsortCmpFunc[[]int64]", by decide, Try.func119.trans (congrArg some (by kernel_rfl))⟩,
  f15 := Try.func120.trans (congrArg some (by kernel_rfl)),
  f20 := ⟨ "slices.insertionSortCmpFunc[[]int64]", by decide, Try.func126.trans (congrArg some (by kernel_rfl))⟩,
  f21 := ⟨ "slices.heapSortCmpFunc[[]int64]", by decide, Try.func127.trans (congrArg some (by kernel_rfl))⟩,
  f22 := ⟨ "slices.breakPatternsCmpFunc[[]int64]", by decide, Try.func128.trans (congrArg some (by kernel_rfl))⟩,
  f23 := ⟨ "slices.choosePivotCmpFunc[[]int64]", by decide, Try.func129.trans (congrArg some (by kernel_rfl))⟩,
  f24 := ⟨ "slices.reverseRangeCmpFunc[[]int64]", by decide, Try.func130.trans (congrArg some (by kernel_rfl))⟩,
  f25 := ⟨ "slices.partialInsertionSortCmpFunc[[]int64]", by decide, Try.func131.trans (congrArg some (by kernel_rfl))⟩,
  f26 := ⟨ "slices.partitionEqualCmpFunc[[]int64]", by decide, Try.func132.trans (congrArg some (by kernel_rfl))⟩,
  f27 := ⟨ "slices.partitionCmpFunc[[]int64]", by decide, Try.func133.trans (congrArg some (by kernel_rfl))⟩,
  f28 := Try.func134.trans (congrArg some (by kernel_rfl)),
  f29 := Try.func135.trans (congrArg some (by kernel_rfl)),
  f46 := ⟨ "slices.siftDownCmpFunc[[]int64]", by decide, Try.func137.trans (congrArg some (by kernel_rfl))⟩,
  f47 := Try.func138.trans (congrArg some (by kernel_rfl)),
  f48 := Try.func139.trans (congrArg some (by kernel_rfl)),
  f49 := ⟨ "slices.medianAdjacentCmpFunc[[]int64]", by decide, Try.func140.trans (congrArg some (by kernel_rfl))⟩,
  f50 := ⟨ "slices.medianCmpFunc[[]int64]", by decide, Try.func141.trans (congrArg some (by kernel_rfl))⟩,
  f57 := ⟨ "slices.order2CmpFunc[[]int64]", by decide, Try.func142.trans (congrArg some (by kernel_rfl))⟩,
  t0 := Try.underlying0,
  a0 := Try.isAgg0,
  z0 := Try.sizeOf0,
  v0 := Try.zeroValue0,
  t3 := Try.underlying3,
  a3 := Try.isAgg3,
  z3 := Try.sizeOf3,
  v3 := Try.zeroValue3,
  t4 := Try.underlying4,
  a4 := Try.isAgg4,
  z4 := Try.sizeOf4,
  v4 := Try.zeroValue4,
  t5 := Try.underlying5,
  a5 := Try.isAgg5,
  z5 := Try.sizeOf5,
  v5 := Try.zeroValue5,
  t9 := Try.underlying9,
  a9 := Try.isAgg9,
  z9 := Try.sizeOf9,
  v9 := Try.zeroValue9,
  t22 := Try.underlying22,
  a22 := Try.isAgg22,
  z22 := Try.sizeOf22,
  v22 := Try.zeroValue22,
  a24 := Try.isAgg26,
  z24 := Try.sizeOf26,
  t25 := Try.underlying107,
  a25 := Try.isAgg107,
  z25 := Try.sizeOf107,
  v25 := Try.zeroValue107,
  t39 := Try.underlying117,
  a39 := Try.isAgg117,
  z39 := Try.sizeOf117,
  v39 := Try.zeroValue117,
  t45 := Try.underlying129,
  a45 := Try.isAgg129,
  z45 := Try.sizeOf129,
  v45 := Try.zeroValue129,
  t46 := Try.underlying130,
  a46 := Try.isAgg130,
  z46 := Try.sizeOf130,
  v46 := Try.zeroValue130,
  t50 := Try.underlying134,
  a50 := Try.isAgg134,
  z50 := Try.sizeOf134,
  v50 := Try.zeroValue134,
  t53 := Try.underlying137,
  a53 := Try.isAgg137,
  z53 := Try.sizeOf137,
  v53 := Try.zeroValue137,
  t55 := Try.underlying139,
  a55 := Try.isAgg139,
  z55 := Try.sizeOf139,
  v55 := Try.zeroValue139,
  t66 := Try.underlying140,
  a66 := Try.isAgg140,
  z66 := Try.sizeOf140,
  v66 := Try.zeroValue140,
  t70 := Try.underlying144,
  a70 := Try.isAgg144,
  z70 := Try.sizeOf144,
  v70 := Try.zeroValue144,
  t76 := Try.underlying146,
  a76 := Try.isAgg146,
  z76 := Try.sizeOf146,
  v76 := Try.zeroValue146,
  t77 := Try.underlying147,
  a77 := Try.isAgg147,
  z77 := Try.sizeOf147,
  v77 := Try.zeroValue147 }
theorem impl_subsets.cmp (x y : Int) : cmp_Compare_int64.f x y = some (if x < y then -1 else if y < x then 1 else 0) := by
 have n : ∀ z : Int, cmp_isNaN_int64.f z = some false := fun z => by unfold cmp_isNaN_int64.f; simp
 unfold cmp_Compare_int64.f; rw [n, n, Option.bind_some, Option.bind_some, if_neg (by decide), if_neg (by decide)]; by_cases h : x < y
 ·rw [if_pos h, if_pos h]
 rw [if_neg h, if_neg h]; by_cases h2 : y < x
 ·rw [if_pos h2, if_pos h2]
 rw [if_neg h2, if_neg h2]
theorem impl_subsets.cmps (x y : List Int) (hx : x.length ≤ 9223372036854775807) : ∀ k i, x.length < i + k → i ≤ x.length → slices_Compare_int64_int64.l0 k x y x (x.length : Int) (i : Int) = some (Go.Proofs.YtmjabeddommiaaaW.SF.lexc (x.drop i) (y.drop i)) := by
 intro k
 induction k with
 | zero => intro i h h2; omega
 | succ k ih =>
  intro i h h2; unfold slices_Compare_int64_int64.l0; refine sqC (i < x.length) (fun hi => ?_) (fun hi => ?_)
  ·have : i = x.length := by omega
   subst this; rw [if_neg (by omega), List.drop_length]; by_cases hy : x.length < y.length
   ·rw [if_pos (by omega), List.drop_eq_getElem_cons hy]; rfl
   rw [if_neg (by omega), show y.drop x.length = [] from List.drop_eq_nil_of_le (by omega)]; rfl
  rw [if_pos (by omega), if_pos (by omega), if_pos (by omega)]; have ex : x.drop i = x[i] :: x.drop (i + 1) := List.drop_eq_getElem_cons hi
  have rx : rd x (i : Int) = x[i] := by unfold rd; rw [show ((i : Int)).toNat = i from rfl]; simp [List.getD_eq_getElem?_getD, hi]
  refine sqC (i < y.length) (fun hy => ?_) (fun hy => ?_)
  ·rw [if_pos (by omega), ex, show y.drop i = [] from List.drop_eq_nil_of_le (by omega)]; rfl
  have ey : y.drop i = y[i] :: y.drop (i + 1) := List.drop_eq_getElem_cons hy
  have ry : rd y (i : Int) = y[i] := by unfold rd; rw [show ((i : Int)).toNat = i from rfl]; simp [List.getD_eq_getElem?_getD, hy]
  rw [if_neg (by omega), if_pos (by omega), impl_subsets.cmp, Option.bind_some, rx, ry, ex, ey]; unfold Go.Proofs.YtmjabeddommiaaaW.SF.lexc; by_cases c1 : x[i] < y[i]
  ·rw [if_pos c1, if_pos c1, if_neg (by decide)]
  by_cases c2 : y[i] < x[i]
  ·rw [if_neg c1, if_pos c2, if_neg c1, if_pos c2, if_neg (by decide)]
  rw [if_neg c1, if_neg c2, if_neg c1, if_neg c2, if_pos rfl]
  have w1 : wrap64 ((i : Int) + 1) = ((i + 1 : Nat) : Int) := by
   rw [show ((i + 1 : Nat) : Int) = (i : Int) + 1 by omega]; unfold wrap64; omega
  rw [w1]; exact ih (i + 1) (by omega) (by omega)
theorem impl_subsets.sorts {w : World} {base : Nat} {ok : Nat → Prop} {u : Value} {l : List (List Int)} (h : Kd.S (Kd.slice 2 (Kd.int .i64)) 26 w base ok u l) (hne : 0 < l.length) (hsz : l.length < 4611686018427387904) :
    Calls Try.prog 107 #[u, .func (.func 108) #[] #[]] w fun r w' => r = .returned (.tuple #[]) ∧ Kd.S (Kd.slice 2 (Kd.int .i64)) 26 w' base ok u (Go.Proofs.YtmjabeddommiaaaW.SF.lsort l) ∧ w.grownBy w' u.ownBlock := by
 refine Go.Proofs.YtmjabeddommiaaaW.SF.sf_lex impl_subsets.lay 108 (enters_of Try.func108 (by decide) rfl) ?_ h hne hsz; intro W x y B B' c c' h1 h2 h3 h4; refine (slices_Compare_int64_int64.calls (x.length + 1) B c x B' c' y (Go.Proofs.YtmjabeddommiaaaW.SF.lexc x y) W h1 h2 h3 h4 ?_).mono ?_
 ·exact impl_subsets.cmps x y (Kd.C_max h1) (x.length + 1) 0 (by omega) (by omega)
 ·rintro e w' ⟨rfl, ⟨nd, rfl⟩⟩; exact ⟨rfl, nd, rfl⟩
mutual
def impl_subsets.l0 : Nat → Int → List (List Int) → Int → Int → Option ((List (List Int)))
  | 0, _, _, _, _ => none
  | k + 1, x0, x3, x9, x10 => if x10 < x9 then (impl_subsets.l1 k x0 x3 x10 (([] : List Int)) x9 x10 x0 0) else (if 0 < x3.length then (if x3.length < 4611686018427387904 then (some (Go.Proofs.YtmjabeddommiaaaW.SF.lsort x3)) else (none)) else (none))
def impl_subsets.l1 : Nat → Int → List (List Int) → Int → List Int → Int → Int → Int → Int → Option ((List (List Int)))
  | 0, _, _, _, _, _, _, _, _ => none
  | k + 1, x0, x3, x4, x5, x9, x10, x14, x15 => if x15 < x14 then (if 0 ≤ x15 then (if (Go.bits .and .i64 (shr .i64 x4 x15) 1) = 1 then (if x5.length < 17592186044416 then (impl_subsets.l1 k x0 x3 x4 (x5 ++ [x15]) x9 x10 x14 (wrap64 (x15 + 1))) else (none)) else (impl_subsets.l1 k x0 x3 x4 x5 x9 x10 x14 (wrap64 (x15 + 1)))) else (none)) else (if x3.length < 5864062014805 then (impl_subsets.l0 k x0 (x3 ++ [x5]) x9 (wrap64 (x10 + 1))) else (none))
end
def impl_subsets.f (k : Nat) (a0 : Int) : Option ((List (List Int))) := if 0 ≤ a0 then (impl_subsets.l0 k a0 (([] : List (List Int))) (shl .i64 1 a0) 0) else (none)
theorem impl_subsets.mono_l : ∀ k, (∀ y0 y1 y2 y3, LeO (impl_subsets.l0 k y0 y1 y2 y3) (impl_subsets.l0 (k + 1) y0 y1 y2 y3)) ∧ (∀ y0 y1 y2 y3 y4 y5 y6 y7, LeO (impl_subsets.l1 k y0 y1 y2 y3 y4 y5 y6 y7) (impl_subsets.l1 (k + 1) y0 y1 y2 y3 y4 y5 y6 y7))
  | 0 => ⟨fun _ _ _ _ r h => by simp [impl_subsets.l0] at h, fun _ _ _ _ _ _ _ _ r h => by simp [impl_subsets.l1] at h⟩
  | k + 1 => by
   obtain ⟨ih0, ih1⟩ := impl_subsets.mono_l k
   refine ⟨?_, ?_⟩ <;> intros
   all_goals first | unfold impl_subsets.l0 | unfold impl_subsets.l1
   all_goals repeat' first | (with_reducible first | apply ih0 | apply ih1 | exact LeO.refl _ | exact LeO.none _ | refine LeO.ite ?_ ?_ | refine LeO.bind ?_ (fun _ => ?_)) | apply ih0 | apply ih1 | exact LeO.none _ | refine LeO.ite ?_ ?_ | refine LeO.bind ?_ (fun _ => ?_)
theorem impl_subsets.mono : ∀ a0 k, LeO (impl_subsets.f k a0) (impl_subsets.f (k + 1) a0) := by
  intro a0 k
  obtain ⟨ih0, ih1⟩ := impl_subsets.mono_l k
  unfold impl_subsets.f
  repeat' first | (with_reducible first | apply ih0 | apply ih1 | exact LeO.refl _ | exact LeO.none _ | refine LeO.ite ?_ ?_ | refine LeO.bind ?_ (fun _ => ?_)) | apply ih0 | apply ih1 | exact LeO.none _ | refine LeO.ite ?_ ?_ | refine LeO.bind ?_ (fun _ => ?_)
set_option maxHeartbeats 8000000 in
set_option maxRecDepth 100000 in
theorem impl_subsets.calls (k : Nat) (a0 : Int) (r : List (List Int)) (w : World) (h : impl_subsets.f k a0 = some r) :
    Calls Try.prog 82 #[.int .i64 a0] w fun e w' => ∃ v0_ : Value, e = .returned (v0_) ∧ Kd.S (Kd.slice 2 (Kd.int .i64)) 26 w' w.heap.size (fun _ => True) v0_ r ∧ Below w.heap.size w w' := by
 have HB := mA (Below.refl w.heap.size w); have H : (if 0 ≤ a0 then (impl_subsets.l0 k a0 (([] : List (List Int))) (shl .i64 1 a0) 0) else (none)) = some r := h; clear h; obtain ⟨y425, hy425⟩ : ∃ y_ : List (List Int), y_ = (([] : List (List Int))) := ⟨_, rfl⟩
 replace H : (if 0 ≤ a0 then (impl_subsets.l0 k a0 y425 (shl .i64 1 a0) 0) else (none)) = some r := by first | (rw [hy425]; with_reducible exact H) | (have H2_ := (Option.bind_some _ _).symm.trans H; rw [hy425]; with_reducible exact H2_) | (have H2_ := (Option.bind_some _ _).symm.trans H; with_reducible exact H2_) | with_reducible exact H | (rw [hy425]; exact H) | exact H
 have Ny425 := mA hy425; clear hy425; obtain ⟨c2, H⟩ := sqI H; have c2b0 := eq_true c2; have c2b1 : decide (0 ≤ a0) = true := decide_eq_true c2; clear c2; obtain ⟨ji3, hji3⟩ : ∃ j_ : Int, (shl .i64 1 a0) = j_ := ⟨_, rfl⟩
 replace H : (impl_subsets.l0 k a0 y425 ji3 0) = some r := by first | (rw [hji3] at H; exact H) | (simp only [hji3] at H ⊢; exact H)
 have hji3_ : (IntKind.i64.wrap (1 * 2 ^ min a0.toNat 64)) = ji3 := hji3; have hji3z : a0 ≤ 64 → (IntKind.i64.wrap (1 * 2 ^ a0.toNat)) = ji3 := shl_small hji3
 have hji3u : (IntKind.i64.wrap (2 ^ min a0.toNat 64)) = ji3 := by have h_ := hji3_; rw [Int.one_mul] at h_; exact h_
 have hji3v : a0 ≤ 64 → (IntKind.i64.wrap (2 ^ a0.toNat)) = ji3 := fun hle_ => by have h_ := hji3z hle_; rw [Int.one_mul] at h_; exact h_
 have hji3y : (wrap64 (1 * 2 ^ min a0.toNat 64)) = ji3 := (i64_w _).symm.trans hji3_
 have hji3x : a0 ≤ 64 → (wrap64 (1 * 2 ^ a0.toNat)) = ji3 := fun h_ => (i64_w _).symm.trans (hji3z h_)
 have H' := mA H; clear H; go_enter Try.func82, Try.ntmps82; go_wp2_with (first | ((with_reducible refine gate_dst (N := 7) rfl ?_); refine Kd.S_lit (Kd.slice 2 (Kd.int .i64)) _ 26 ?hg (N := 7) ?hd (xs := ([] : List (List Int))) (inner := []) (ok := fun _ => True) (okp := fun _ => True) ?hr ?hp (fun _ hk => hk) trivial (Below.refl _ _) (Nat.le_refl _) (by simp) ?_; (case hd => rfl); (case hg => rfl); (case hr => exact zq12); (case hp => exact (Reps.none _ _)); intro v426 w4 ho5 hb hg_ hnew_; clear hg_ hnew_; (first | rw [← Ny425.out] at ho5 | (simp only [Int.reduceToNat] at ho5; rw [← Ny425.out] at ho5)); have HO427 := mA (Kd.S_lower ho5 (below_size zq5)); replace HB := mA (below_step zq5 hb); clear hb ho5)); go_loopg [3, 10] k (fun kq v3 v10 w' => ∃ (x3_1 : List (List Int)) (x10_1 : Int), v10 = .int .i64 x10_1 ∧ Aside0 (impl_subsets.l0 kq a0 x3_1 ji3 x10_1 = some r) ∧ Aside0 (kq ≤ k) ∧ Aside0 (Kd.S (Kd.slice 2 (Kd.int .i64)) 26 w' w.heap.size (fun _ => True) v3 x3_1) ∧ Aside0 (Below w.heap.size w w'))
 case atStart => exact ⟨(y425), (0), zq3, H', ⟨Nat.le_refl _⟩, ⟨zq4 HO427⟩, ⟨zq5⟩⟩
 case round =>
  clear H'; (try clear c2); (try clear c2b0); (try clear c2b1); (try clear p2); obtain ⟨x3_1, x10_1, rfl, HA, HK1, HO_3, HB⟩ := hrel
  cases gk with
  | zero => exact absurd HA.out (by simp [impl_subsets.l0])
  | succ k1 =>
   have H := HA.out; clear HA; simp only [impl_subsets.l0] at H; refine sqC (x10_1 < ji3) (fun c6 => ?_) (fun c6 => ?_)
   ·rw [if_neg c6] at H; have c6b0 : decide (x10_1 < ji3) = false := decide_eq_false c6; clear c6; obtain ⟨c40, H⟩ := sqI H; obtain ⟨c41, H⟩ := sqI H; obtain rfl := Option.some.inj H; go_wp2_with (first | (refine sqG 107 (some 34) Try.func107 #[u3, .func (.func 108) #[] #[]] (h := ?_); refine (impl_subsets.sorts (zq4 HO_3) c40 c41).mono ?_; rintro e w16 ⟨rfl, hS, hg⟩; refine ⟨_, rfl, ?_⟩; replace HB := mA (pw_below_grown zq5 _ (below_size zq5) hg (Kd.S_base HO_3.out)); replace HO_3 := mA hS; clear hS hg)); go_ret; exact ⟨_, by first | rfl | (simp [errW_none, errW_some] <;> rfl) | (simp only [← hji3]; first | rfl | (simp [errW_none, errW_some] <;> rfl)) | (simp [*, errW_none, errW_some] <;> rfl), zq4 HO_3, zq5⟩
   rw [if_pos c6] at H; have c6b0 : decide (x10_1 < ji3) = true := decide_eq_true c6; clear c6; obtain ⟨y428, hy428⟩ : ∃ y_ : List Int, y_ = (([] : List Int)) := ⟨_, rfl⟩
   replace H : (impl_subsets.l1 k1 a0 x3_1 x10_1 y428 ji3 x10_1 a0 0) = some r := by first | (rw [hy428]; with_reducible exact H) | (have H2_ := (Option.bind_some _ _).symm.trans H; rw [hy428]; with_reducible exact H2_) | (have H2_ := (Option.bind_some _ _).symm.trans H; with_reducible exact H2_) | with_reducible exact H | (rw [hy428]; exact H) | exact H
   have Ny428 := mA hy428; clear hy428; have H' := mA H; clear H; go_wp2_with (first | ((with_reducible refine gate_dst (N := 13) rfl ?_); refine Kd.R_lit (Kd.int .i64) _ 2 ?hg (N := 13) ?hd (xs := ([] : List Int)) (inner := []) (ok := fun _ => True) (okp := fun _ => True) ?hr ?hp (fun _ hk => hk) trivial (Below.refl _ _) (Nat.le_refl _) (by simp) ?_; (case hd => rfl); (case hg => rfl); (case hr => exact zq12); (case hp => exact (Reps.none _ _)); intro v429 w7 ho8 hb hg_ hnew_; clear hg_ hnew_; (first | rw [← Ny428.out] at ho8 | (simp only [Int.reduceToNat] at ho8; rw [← Ny428.out] at ho8)); replace HO_3 := mA (Kd.S_elder' (zq4 HO_3) (Kd.R_base ho8) hb); have HO430 := mA (Kd.R_lower ho8 (below_size zq5)); replace HB := mA (below_step zq5 hb); clear hb ho8)); go_loopg [5, 15] k1 (fun kq v5 v15 w' => ∃ (x5_2 : List Int) (x15_2 : Int), v15 = .int .i64 x15_2 ∧ Aside0 (impl_subsets.l1 kq a0 x3_1 x10_1 x5_2 ji3 x10_1 a0 x15_2 = some r) ∧ Aside0 (kq ≤ k1) ∧ Aside0 (Kd.S (Kd.slice 2 (Kd.int .i64)) 26 w' w.heap.size (fun k_ => some k_ ≠ (v5 : Value).ownBlock) u3 x3_1) ∧ Aside0 (Kd.R (Kd.int .i64) 2 w' w.heap.size (fun _ => True) v5 x5_2) ∧ Aside0 (Below w.heap.size w w'))
   case atStart => exact ⟨(y428), (0), zq3, H', ⟨Nat.le_refl _⟩, ⟨zq25 HO_3⟩, ⟨zq0 HO430⟩, ⟨zq5⟩⟩
   case round =>
    clear H'; (try clear c2); (try clear c2b0); (try clear c2b1); (try clear p2); (try clear c6); (try clear c6b0); (try clear p6); (try clear c8); (try clear p2); obtain ⟨x5_2, x15_2, rfl, HA, HK2, HO_3, HO_5, HB⟩ := hrel
    cases gk with
    | zero => exact absurd HA.out (by simp [impl_subsets.l1])
    | succ k2 =>
     have H := HA.out; clear HA; simp only [impl_subsets.l1] at H; refine sqC (x15_2 < a0) (fun c9 => ?_) (fun c9 => ?_)
     ·rw [if_neg c9] at H; have c9b0 : decide (x15_2 < a0) = false := decide_eq_false c9; clear c9; obtain ⟨c15, H⟩ := sqI H; have LMc15 := mA c15; clear c15; obtain ⟨y434, hy434⟩ : ∃ y_ : List (List Int), y_ = (x3_1 ++ [x5_2]) := ⟨_, rfl⟩
      replace H : (impl_subsets.l0 k2 a0 y434 ji3 (wrap64 (x10_1 + 1))) = some r := by first | (rw [hy434]; with_reducible exact H) | (have H2_ := (Option.bind_some _ _).symm.trans H; rw [hy434]; with_reducible exact H2_) | (have H2_ := (Option.bind_some _ _).symm.trans H; with_reducible exact H2_) | with_reducible exact H | (rw [hy434]; exact H) | exact H
      have Ny434 := mA hy434; clear hy434; have H' := mA H; clear H; obtain ⟨Ao17, co17, eo17⟩ := Kd.R_slice HO_5.out; subst eo17; go_wp2_with (first | ((with_reducible refine gate_builtin (b := .append) (xs := #[.tmp 28, .tmp 30]) rfl ?_); at_builtin; refine Kd.S_append (Kd.slice 2 (Kd.int .i64)) (w0 := w) w.heap.size rfl (.tmp 28) (.tmp 30) 22 26 (.slice none 0 0) 24 rfl Try.underlying22 info26 rfl (by decide) (by omega) u3 x3_1 x5_2 [.slice Ao17 x5_2.length co17] (fun _ => True) (fun k_ => some k_ = (.slice Ao17 x5_2.length co17 : Value).ownBlock) rfl rfl ?aP (fun k_ hk_ => ((Kd.R_mono (ok' := fun k_ => ((fun _ => True)) k_ ∧ some k_ ≠ (u3 : Value).ownBlock) (Kd.R_apart' (HO_5.out) (Kd.S_typed HO_3.out) (by decide)) (fun k_ hk => ⟨trivial, hk.2⟩))).1 k_ hk_.symm) ?aF ?aO ?aB ?aS ?aL ?_; (case aP => exact Kd.M_row (Kd.R_mono (Kd.R_tight rfl (Kd.R_mono (ok' := fun k_ => ((fun _ => True)) k_ ∧ some k_ ≠ (u3 : Value).ownBlock) (Kd.R_apart' (HO_5.out) (Kd.S_typed HO_3.out) (by decide)) (fun k_ hk => ⟨trivial, hk.2⟩))) (fun _ h_ => h_))); (case aB => exact zq5); (case aF => exact (fun _ _ => trivial)); (case aO => exact (by (with_reducible repeat (first | apply Kd.S_alloc | apply Kd.S_drewN | apply Kd.S_drew)); exact Kd.S_mono HO_3.out (fun k_ hk => ⟨trivial, fun e_ => hk e_⟩))); (case aS => exact (below_size zq5)); (case aL => have := LMc15.out; omega); intro v435 w16 ho hb hg hat; rw [← Ny434.out] at ho; replace HB := mA (hb); have HO436 := mA (ho); clear HO_3 HO_5 ho hb hg hat)); go_roundg k2
      case measure => have := HK1.out; have := HK2.out; omega
      case rel => exact ⟨(y434), (wrap64 (x10_1 + 1)), zq3, H', ⟨zq22 HK1 HK2⟩, ⟨zq4 HO436⟩, ⟨zq5⟩⟩
     rw [if_pos c9] at H; have c9b0 : decide (x15_2 < a0) = true := decide_eq_true c9; clear c9; obtain ⟨c10, H⟩ := sqI H; have c10b0 := eq_true c10; have c10b1 := decide_eq_true c10; clear c10; obtain ⟨ji11, hji11⟩ : ∃ j_ : Int, (shr .i64 x10_1 x15_2) = j_ := ⟨_, rfl⟩
     replace H : (if (Go.bits .and .i64 (ji11) 1) = 1 then (if x5_2.length < 17592186044416 then (impl_subsets.l1 k2 a0 x3_1 x10_1 (x5_2 ++ [x15_2]) ji3 x10_1 a0 (wrap64 (x15_2 + 1))) else (none)) else (impl_subsets.l1 k2 a0 x3_1 x10_1 x5_2 ji3 x10_1 a0 (wrap64 (x15_2 + 1)))) = some r := by first | (rw [hji11] at H; exact H) | (simp only [hji11] at H ⊢; exact H)
     have hji11_ : (x10_1 / 2 ^ min x15_2.toNat 64) = ji11 := hji11; have hji11z : x15_2 ≤ 64 → (x10_1 / 2 ^ x15_2.toNat) = ji11 := shr_small hji11; refine sqC ((Go.bits .and .i64 (ji11) 1) = 1) (fun c12 => ?_) (fun c12 => ?_)
     ·rw [if_neg c12] at H; have c12b0 : ((Go.bits .and .i64 (ji11) 1) == 1) = false := beq_eq_false_iff_ne.mpr c12; have c12b1 : ((Go.bits .and .i64 (ji11) 1) != 1) = true := bne_iff_ne.mpr c12; have H' := mA H; clear H; go_wp2; go_roundg k2
      case measure => have := HK1.out; have := HK2.out; omega
      case rel => exact ⟨(x5_2), (wrap64 (x15_2 + 1)), zq3, H', ⟨zq22 HK1 HK2⟩, ⟨zq4 HO_3⟩, ⟨zq0 HO_5⟩, ⟨zq5⟩⟩
     rw [if_pos c12] at H; have c12b0 : ((Go.bits .and .i64 (ji11) 1) == 1) = true := beq_iff_eq.mpr c12; have c12b1 : ((Go.bits .and .i64 (ji11) 1) != 1) = false := bne_eq_false_iff_eq.mpr c12; clear c12; obtain ⟨c13, H⟩ := sqI H; have LMc13 := mA c13; clear c13; obtain ⟨y431, hy431⟩ : ∃ y_ : List Int, y_ = (x5_2 ++ [x15_2]) := ⟨_, rfl⟩
     replace H : (impl_subsets.l1 k2 a0 x3_1 x10_1 y431 ji3 x10_1 a0 (wrap64 (x15_2 + 1))) = some r := by first | (rw [hy431]; with_reducible exact H) | (have H2_ := (Option.bind_some _ _).symm.trans H; rw [hy431]; with_reducible exact H2_) | (have H2_ := (Option.bind_some _ _).symm.trans H; with_reducible exact H2_) | with_reducible exact H | (rw [hy431]; exact H) | exact H
     have Ny431 := mA hy431; clear hy431; have H' := mA H; clear H; go_wp2_with (first | ((with_reducible refine gate_builtin (b := .append) (xs := #[.tmp 23, .tmp 25]) rfl ?_); at_builtin; refine Kd.R_append (Kd.int .i64) (w0 := w) w.heap.size rfl (.tmp 23) (.tmp 25) 26 2 (.int .i64 0) 8 rfl Try.underlying26 info2 rfl (by decide) (by omega) u5 x5_2 x15_2 [.int .i64 x15_2] (fun _ => True) (fun _ => False) rfl rfl ?aP (fun _ hk => hk.elim) ?aF ?aO ?aB ?aS ?aL ?_; (case aP => exact rfl); (case aB => exact zq5); (case aF => exact (fun _ _ => trivial)); (case aO => exact (zq0 HO_5)); (case aS => exact (below_size zq5)); (case aL => have := LMc13.out; omega); intro v432 w14 ho hb hg hat; rw [← Ny431.out] at ho; replace HO_3 := mA (Kd.S_after (ok := (fun _ => True)) (by (with_reducible repeat (first | apply Kd.S_alloc | apply Kd.S_drewN | apply Kd.S_drew)); exact Kd.S_mono HO_3.out (fun _ hk => ⟨trivial, hk⟩)) hg hat); replace HB := mA (hb); have HO433 := mA (ho); clear HO_5 ho hb hg hat)); go_roundg k2
     case measure => have := HK1.out; have := HK2.out; omega
     case rel => exact ⟨(y431), (wrap64 (x15_2 + 1)), zq3, H', ⟨zq22 HK1 HK2⟩, ⟨zq25 HO_3⟩, ⟨zq0 HO433⟩, ⟨zq5⟩⟩

end Go.Proofs.Ytmjabeddommiaaa.PFnExactCutFor
