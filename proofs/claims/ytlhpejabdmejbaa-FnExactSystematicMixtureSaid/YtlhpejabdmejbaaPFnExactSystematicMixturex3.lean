/- Written by this session's program (wip/tool/xprint.py) over the kit's printer. -/
import Derived.Test.YtlhpejabdmejbaaPFnExactSystematicMixturex0
namespace Go.Proofs.Ytlhpejabdmejbaa.PFnExactSystematicMixture
open Go.RowKit Go.Proofs.YtlhpejabdmejbaaW.PrintWords Go.Proofs.YtlhpejabdmejbaaW.PrintLast Go.Proofs.YtlhpejabdmejbaaW.PrintMore
attribute [local go_sem] max2_int min2_int max_two min_two max_three min_three max_four min_four   -- for this text's walks alone
set_option linter.unusedVariables false
set_option linter.unusedSimpArgs false

/-! ### spec_l00Same: function 115 -/
def spec_l00Same.l0 : Nat → List Int → List Int → Int → Option (Bool)
  | 0, _, _, _ => none
  | k + 1, x0, x1, x5 => if x5 < (x0.length : Int) then (if 0 ≤ x5 then (if x5 < (x1.length : Int) then (if (rd x0 x5) = (rd x1 x5) then (spec_l00Same.l0 k x0 x1 (wrap64 (x5 + 1))) else (some false)) else (none)) else (none)) else (some true)
def spec_l00Same.f (k : Nat) (l0 : List Int) (l1 : List Int) : Option (Bool) := if (l0.length : Int) = (l1.length : Int) then (spec_l00Same.l0 k l0 l1 0) else (some false)
theorem spec_l00Same.mono_l : ∀ k, (∀ y0 y1 y2, LeO (spec_l00Same.l0 k y0 y1 y2) (spec_l00Same.l0 (k + 1) y0 y1 y2))
  | 0 => fun _ _ _ r h => by simp [spec_l00Same.l0] at h
  | k + 1 => by
   have ih0 := spec_l00Same.mono_l k
   intros
   unfold spec_l00Same.l0
   all_goals repeat' first | (with_reducible first | apply ih0 | exact LeO.refl _ | exact LeO.none _ | refine LeO.ite ?_ ?_ | refine LeO.bind ?_ (fun _ => ?_)) | apply ih0 | exact LeO.none _ | refine LeO.ite ?_ ?_ | refine LeO.bind ?_ (fun _ => ?_)
theorem spec_l00Same.mono : ∀ a0 a1 k, LeO (spec_l00Same.f k a0 a1) (spec_l00Same.f (k + 1) a0 a1) := by
  intro a0 a1 k
  have ih0 := spec_l00Same.mono_l k
  unfold spec_l00Same.f
  repeat' first | (with_reducible first | apply ih0 | exact LeO.refl _ | exact LeO.none _ | refine LeO.ite ?_ ?_ | refine LeO.bind ?_ (fun _ => ?_)) | apply ih0 | exact LeO.none _ | refine LeO.ite ?_ ?_ | refine LeO.bind ?_ (fun _ => ?_)
set_option maxHeartbeats 8000000 in
set_option maxRecDepth 100000 in
theorem spec_l00Same.calls (k : Nat) (A0 : Option Addr) (c0 : Nat) (l0 : List Int) (A1 : Option Addr) (c1 : Nat) (l1 : List Int) (r : Bool) (w : World) (hr0 : Kd.C (Kd.int .i64) w A0 l0.length l0) (hc0 : l0.length ≤ c0) (hr1 : Kd.C (Kd.int .i64) w A1 l1.length l1) (hc1 : l1.length ≤ c1) (h : spec_l00Same.f k l0 l1 = some r) :
    Calls Try.prog 115 #[.slice A0 l0.length c0, .slice A1 l1.length c1] w fun e w' => e = .returned (.bool r) ∧ Drawn0 w w' := by
 have HR0 := mA hr0; have HC0 := mA hc0; clear hr0 hc0; have HR1 := mA hr1; have HC1 := mA hc1; clear hr1 hc1; have H : (if (l0.length : Int) = (l1.length : Int) then (spec_l00Same.l0 k l0 l1 0) else (some false)) = some r := h; clear h; refine sqC ((l0.length : Int) = (l1.length : Int)) (fun c3 => ?_) (fun c3 => ?_)
 ·rw [if_neg c3] at H; have c3b0 : ((l0.length : Int) == (l1.length : Int)) = false := beq_eq_false_iff_ne.mpr c3; have c3b1 : ((l0.length : Int) != (l1.length : Int)) = true := bne_iff_ne.mpr c3
  have c3b2 : (l0.length == l1.length) = false := by first | simpa using c3 | (simp at c3 ⊢; omega)
  obtain rfl := Option.some.inj H; go_enter Try.func115, Try.ntmps115; go_wp2
  repeat (go_quiet (fail); try go_wp2)
  go_ret; exact ⟨zq4, zq6⟩
 rw [if_pos c3] at H; have c3b0 : ((l0.length : Int) == (l1.length : Int)) = true := beq_iff_eq.mpr c3; have c3b1 : ((l0.length : Int) != (l1.length : Int)) = false := bne_eq_false_iff_eq.mpr c3
 have c3b2 : (l0.length == l1.length) = true := by first | simpa using c3 | (simp at c3 ⊢; omega)
 clear c3; have H' := mA H; clear H; go_enter Try.func115, Try.ntmps115; go_wp2
 repeat (go_quiet (fail); try go_wp2)
 go_loopg [5] k (fun kq v5 w' => ∃ (x5_1 : Int), v5 = .int .i64 x5_1 ∧ Aside0 (spec_l00Same.l0 kq l0 l1 x5_1 = some r) ∧ Aside0 (kq ≤ k) ∧ Drawn0 w w')
 case atStart => exact ⟨(0), zq4, H', ⟨Nat.le_refl _⟩, zq6⟩
 case round =>
  clear H'; (try clear c1); (try clear p2); (try clear c3); (try clear c3b0); (try clear c3b1); (try clear c3b2); obtain ⟨x5_1, rfl, HA, HK1, ⟨m1, rfl⟩⟩ := hrel
  cases gk with
  | zero => exact absurd HA.out (by simp [spec_l00Same.l0])
  | succ k1 =>
   have H := HA.out; clear HA; simp only [spec_l00Same.l0] at H; refine sqC (x5_1 < (l0.length : Int)) (fun c4 => ?_) (fun c4 => ?_)
   ·rw [if_neg c4] at H; have c4b0 : decide (x5_1 < (l0.length : Int)) = false := decide_eq_false c4; clear c4; obtain rfl := Option.some.inj H; go_wp2
    repeat (go_quiet (fail); try go_wp2)
    go_ret; exact ⟨zq4, zq6⟩
   rw [if_pos c4] at H; have c4b0 : decide (x5_1 < (l0.length : Int)) = true := decide_eq_true c4; clear c4; obtain ⟨c5, H⟩ := sqI H; replace c5 := decide_eq_true c5; obtain ⟨c6, H⟩ := sqI H; replace c6 := decide_eq_true c6; refine sqC ((rd l0 x5_1) = (rd l1 x5_1)) (fun c7 => ?_) (fun c7 => ?_)
   ·rw [if_neg c7] at H; have c7b0 : ((rd l0 x5_1) == (rd l1 x5_1)) = false := beq_eq_false_iff_ne.mpr c7; have c7b1 : ((rd l0 x5_1) != (rd l1 x5_1)) = true := bne_iff_ne.mpr c7; obtain rfl := Option.some.inj H; have p139 : 0 ≤ (x5_1 : Int) := sqd; have q139 : x5_1 < (l0.length : Int) := sqd; obtain ⟨ad139, e139, hx139_0⟩ := Kd.at_int HR0.out x5_1 p139 q139
    cases e139
    replace p139 := eq_true p139; replace q139 := eq_true q139; have p140 : 0 ≤ (x5_1 : Int) := sqd; have q140 : x5_1 < (l1.length : Int) := sqd; obtain ⟨ad140, e140, hx140_0⟩ := Kd.at_int HR1.out x5_1 p140 q140
    cases e140
    replace p140 := eq_true p140; replace q140 := eq_true q140; go_wp2
    repeat (go_quiet (fail); try go_wp2)
    go_ret; exact ⟨zq4, zq6⟩
   rw [if_pos c7] at H; have c7b0 : ((rd l0 x5_1) == (rd l1 x5_1)) = true := beq_iff_eq.mpr c7; have c7b1 : ((rd l0 x5_1) != (rd l1 x5_1)) = false := bne_eq_false_iff_eq.mpr c7; clear c7; have H' := mA H; clear H; have p139 : 0 ≤ (x5_1 : Int) := sqd; have q139 : x5_1 < (l0.length : Int) := sqd; obtain ⟨ad139, e139, hx139_0⟩ := Kd.at_int HR0.out x5_1 p139 q139
   cases e139
   replace p139 := eq_true p139; replace q139 := eq_true q139; have p140 : 0 ≤ (x5_1 : Int) := sqd; have q140 : x5_1 < (l1.length : Int) := sqd; obtain ⟨ad140, e140, hx140_0⟩ := Kd.at_int HR1.out x5_1 p140 q140
   cases e140
   replace p140 := eq_true p140; replace q140 := eq_true q140; go_wp2
   repeat (go_quiet (fail); try go_wp2)
   go_roundg k1
   case measure => have := HK1.out; omega
   case rel => exact ⟨(wrap64 (x5_1 + 1)), zq4, H', ⟨by have := HK1.out; omega⟩, zq6⟩

/-! ### spec_l01Floor: function 116 -/
def spec_l01Floor.f (a0 : Int) (a1 : Int) : Option (Int) := if a1 = 0 then (none) else (if (wrap64 ((wrap64 (Int.tdiv a0 a1)) * a1)) > a0 then (some (wrap64 ((wrap64 (Int.tdiv a0 a1)) - 1))) else (some (wrap64 (Int.tdiv a0 a1))))
set_option maxHeartbeats 8000000 in
set_option maxRecDepth 100000 in
theorem spec_l01Floor.calls (a0 : Int) (a1 : Int) (r : Int) (w : World) (h : spec_l01Floor.f a0 a1 = some r) :
    Calls Try.prog 116 #[.int .i64 a0, .int .i64 a1] w fun e w' => e = .returned (.int .i64 r) ∧ Drawn0 w w' := by
 have H : (if a1 = 0 then (none) else (if (wrap64 ((wrap64 (Int.tdiv a0 a1)) * a1)) > a0 then (some (wrap64 ((wrap64 (Int.tdiv a0 a1)) - 1))) else (some (wrap64 (Int.tdiv a0 a1))))) = some r := h; clear h; obtain ⟨c3, H⟩ := sqJ H; have c3b0 : (a1 == 0) = false := beq_eq_false_iff_ne.mpr c3; have c3b1 : (a1 != 0) = true := bne_iff_ne.mpr c3; by_cases c4 : (wrap64 ((wrap64 (Int.tdiv a0 a1)) * a1)) > a0
 ·rw [if_pos c4] at H; have c4b0 : decide (a0 < (wrap64 ((wrap64 (Int.tdiv a0 a1)) * a1))) = true := decide_eq_true c4; clear c4; obtain rfl := Option.some.inj H; go_enter Try.func116, Try.ntmps116; go_wp2; go_ret; exact ⟨zq4, zq6⟩
 rw [if_neg c4] at H; have c4b0 : decide (a0 < (wrap64 ((wrap64 (Int.tdiv a0 a1)) * a1))) = false := decide_eq_false c4; clear c4; obtain rfl := Option.some.inj H; go_enter Try.func116, Try.ntmps116; go_wp2; go_ret; exact ⟨zq4, zq6⟩

/-! ### spec_l06Start: function 125 -/
def spec_l06Start.l0 : Nat → List Int → List Int → Int → Int → Int → List Int → Option (List Int)
  | 0, _, _, _, _, _, _ => none
  | k + 1, x1, x7, x8, x9, x41000, x41001 => if x9 < (x1.length : Int) then (if 0 ≤ x9 then (if 0 ≤ (rd x1 x9) then (if (rd x1 x9) < (x41001.length : Int) then ((spec_l01Floor.f (wrap64 (x8 + (rd x41001 (rd x1 x9)))) x41000).bind fun t147 => ((spec_l01Floor.f x8 x41000).bind fun t148 => (if (rd x1 x9) < (x7.length : Int) then (spec_l06Start.l0 k x1 (x7.set ((rd x1 x9) : Int).toNat (wrap64 (t147 - t148))) (wrap64 (x8 + (rd x41001 (rd x1 x9)))) (wrap64 (x9 + 1)) x41000 x41001) else (none)))) else (none)) else (none)) else (none)) else (some x7)
def spec_l06Start.f (k : Nat) (a0_0 : Int) (l0_1 : List Int) (l1 : List Int) (a2 : Int) : Option (List Int) := if 0 ≤ (l1.length : Int) then (if ((l1.length : Int) : Int).toNat ≤ 35184372088832 then (spec_l06Start.l0 k l1 (List.replicate ((l1.length : Int) : Int).toNat 0) a2 0 a0_0 l0_1) else (none)) else (none)
theorem spec_l06Start.mono_l : ∀ k, (∀ y0 y1 y2 y3 y4 y5, LeO (spec_l06Start.l0 k y0 y1 y2 y3 y4 y5) (spec_l06Start.l0 (k + 1) y0 y1 y2 y3 y4 y5))
  | 0 => fun _ _ _ _ _ _ r h => by simp [spec_l06Start.l0] at h
  | k + 1 => by
   have ih0 := spec_l06Start.mono_l k
   intros
   unfold spec_l06Start.l0
   all_goals repeat' first | (with_reducible first | apply ih0 | exact LeO.refl _ | exact LeO.none _ | refine LeO.ite ?_ ?_ | refine LeO.bind ?_ (fun _ => ?_)) | apply ih0 | exact LeO.none _ | refine LeO.ite ?_ ?_ | refine LeO.bind ?_ (fun _ => ?_)
theorem spec_l06Start.mono : ∀ a0 a1 a2 a3 k, LeO (spec_l06Start.f k a0 a1 a2 a3) (spec_l06Start.f (k + 1) a0 a1 a2 a3) := by
  intro a0 a1 a2 a3 k
  have ih0 := spec_l06Start.mono_l k
  unfold spec_l06Start.f
  repeat' first | (with_reducible first | apply ih0 | exact LeO.refl _ | exact LeO.none _ | refine LeO.ite ?_ ?_ | refine LeO.bind ?_ (fun _ => ?_)) | apply ih0 | exact LeO.none _ | refine LeO.ite ?_ ?_ | refine LeO.bind ?_ (fun _ => ?_)
def spec_l06Start.T6 : Bool × List (List Nat × List Nat) := (true, [([], []), ([], []), ([1], [1]), ([2], [2]), ([3], [3]), ([], []), ([], []), ([5, 6], [5, 6]), ([7], [7]), ([4, 8], [4, 8]), ([9], [9]), ([0, 10], [0, 10]), ([11, 0, 1, 2, 3, 4, 5, 6, 7, 8, 9, 10, 11], [11])])
def spec_l06Start.B6 : List Nat := [0, 0, 2, 6, 14, 0, 0, 96, 224, 510, 1022, 2047, 4095]
theorem spec_l06Start.tab6 : rtab .any (opsOf Try.f125 6) = spec_l06Start.T6 := by kernel_rfl
theorem spec_l06Start.bits6 : waitsOk spec_l06Start.T6.2 spec_l06Start.B6 = true := by kernel_rfl
def spec_l06Start.T7 : Bool × List (List Nat × List Nat) := (true, [([], []), ([], []), ([], []), ([1, 2], [1, 2]), ([3], [3]), ([], []), ([], []), ([6], [6]), ([7], [7]), ([8], [8]), ([5, 9], [5, 9]), ([], []), ([], []), ([12], [12]), ([13], [13]), ([14], [14]), ([11, 15, 10], [11, 15]), ([10, 16], [10, 16]), ([0, 4, 0, 1, 2, 3, 4, 5, 6, 7, 8, 9, 10, 11, 12, 13, 14, 15, 16, 17], [0, 4]), ([18, 17, 16, 0, 1, 2, 3, 4, 5, 6, 7, 8, 9, 10, 11, 12, 13, 14, 15, 16, 17], [17, 18])])
def spec_l06Start.B7 : List Nat := [0, 0, 0, 6, 14, 0, 0, 64, 192, 448, 992, 0, 0, 4096, 12288, 28672, 65504, 131040, 262143, 524287]
theorem spec_l06Start.tab7 : rtab .any (opsOf Try.f125 7) = spec_l06Start.T7 := by kernel_rfl
theorem spec_l06Start.bits7 : waitsOk spec_l06Start.T7.2 spec_l06Start.B7 = true := by kernel_rfl
set_option maxHeartbeats 8000000 in
set_option maxRecDepth 100000 in
theorem spec_l06Start.calls (k : Nat) (gv0_0_ : Nat) (a0_0 : Int) (A0_1 : Option Addr) (c0_1 : Nat) (l0_1 : List Int) (A1 : Option Addr) (c1 : Nat) (l1 : List Int) (a2 : Int) (r : List Int) (w : World) (hbx0_0_ : w.heap[gv0_0_]? = some (.cells #[.int .i64 a0_0, .slice A0_1 l0_1.length c0_1] 43 (0, 0))) (hr0_1 : Kd.C (Kd.int .i64) w A0_1 l0_1.length l0_1) (hc0_1 : l0_1.length ≤ c0_1) (hr1 : Kd.C (Kd.int .i64) w A1 l1.length l1) (hc1 : l1.length ≤ c1) (h : spec_l06Start.f k a0_0 l0_1 l1 a2 = some r) :
    Calls Try.prog 125 #[.pointer (some ⟨gv0_0_, 0, none⟩), .slice A1 l1.length c1, .int .i64 a2] w fun e w' => ∃ v0_ : Value, e = .returned (v0_) ∧ Kd.R (Kd.int .i64) 2 w' w.heap.size (fun _ => True) v0_ r ∧ Below w.heap.size w w' := by
 have HR0_1 := mA hr0_1; have HC0_1 := mA hc0_1; clear hr0_1 hc0_1; have HR1 := mA hr1; have HC1 := mA hc1; clear hr1 hc1; have BK40 := mA hbx0_0_; clear hbx0_0_; have HB := mA (Below.refl w.heap.size w); have H : (if 0 ≤ (l1.length : Int) then (if ((l1.length : Int) : Int).toNat ≤ 35184372088832 then (spec_l06Start.l0 k l1 (List.replicate ((l1.length : Int) : Int).toNat 0) a2 0 a0_0 l0_1) else (none)) else (none)) = some r := h; clear h; obtain ⟨c4, H⟩ := sqI H; have c4b0 := eq_true c4; have c4b1 : decide (0 ≤ (l1.length : Int)) = true := decide_eq_true c4; clear c4; obtain ⟨c5, H⟩ := sqI H; have c5b0 := eq_true c5; have c5b1 := decide_eq_true c5; clear c5; obtain ⟨y141, hy141⟩ : ∃ y_ : List Int, y_ = (List.replicate ((l1.length : Int) : Int).toNat 0) := ⟨_, rfl⟩
 replace H : (spec_l06Start.l0 k l1 y141 a2 0 a0_0 l0_1) = some r := by first | (rw [hy141]; with_reducible exact H) | (have H2_ := (Option.bind_some _ _).symm.trans H; rw [hy141]; with_reducible exact H2_) | (have H2_ := (Option.bind_some _ _).symm.trans H; with_reducible exact H2_) | with_reducible exact H | (rw [hy141]; exact H) | exact H
 have Ny141 := mA hy141; clear hy141; have H' := mA H; clear H; go_enter Try.func125, Try.ntmps125; go_wp2_with (first | ((with_reducible refine gate_dst (N := 13) rfl ?_); refine Kd.R_make (Kd.int .i64) _ 2 rfl (N := 13) rfl 22 _ _ rfl (l1.length : Int) rfl rfl Try.underlying22 (.int .i64 0) 8 info2 rfl (by decide) (by omega) 0 (ok := fun _ => True) (okp := fun _ => True) rfl (fun _ hk => hk) trivial (sqd) (Nat.le_trans (Nat.mul_le_mul_right _ (sqd : (l1.length : Int).toNat ≤ 35184372088832)) (by omega)) (Below.refl _ _) (Nat.le_refl _) ?_; intro v142 w6 ho7 hb hg_ hnew_; clear hg_ hnew_; (first | rw [← Ny141.out] at ho7 | (simp only [Int.reduceToNat] at ho7; rw [← Ny141.out] at ho7)); have HO143 := mA (Kd.R_lower ho7 (below_size zq1)); replace BK40 := mA (blk_below (g := gv0_0_) (o := .cells #[.int .i64 a0_0, .slice A0_1 l0_1.length c0_1] 43 (0, 0)) (zq0 BK40) hb); replace HB := mA (below_step zq1 hb); clear hb ho7)); go_loopg [8, 9] k (fun kq v8 v9 w' => ∃ (x7_1 : List Int) (x8_1 : Int) (x9_1 : Int), v8 = .int .i64 x8_1 ∧ v9 = .int .i64 x9_1 ∧ Aside0 (spec_l06Start.l0 kq l1 x7_1 x8_1 x9_1 a0_0 l0_1 = some r) ∧ Aside0 (kq ≤ k) ∧ Aside0 (Kd.R (Kd.int .i64) 2 w' w.heap.size (fun _ => True) v142 x7_1) ∧ Aside0 (w'.heap[gv0_0_]? = some (.cells #[.int .i64 a0_0, (.slice A0_1 l0_1.length c0_1)] 43 (0, 0))) ∧ Aside0 (Below w.heap.size w w'))
 case atStart => exact ⟨(y141), (a2), (0), zq4, zq4, H', ⟨Nat.le_refl _⟩, ⟨zq3 HO143⟩, ⟨zq0 BK40⟩, ⟨zq1⟩⟩
 case round =>
  clear H'; (try clear c1); (try clear p2); (try clear c4); (try clear c4b0); (try clear c4b1); (try clear c5); (try clear c5b0); (try clear c5b1); obtain ⟨x7_1, x8_1, x9_1, rfl, rfl, HA, HK1, HO_7, BK40, HB⟩ := hrel
  cases gk with
  | zero => exact absurd HA.out (by simp [spec_l06Start.l0])
  | succ k1 =>
   have H := HA.out; clear HA; simp only [spec_l06Start.l0] at H; refine sqC (x9_1 < (l1.length : Int)) (fun c8 => ?_) (fun c8 => ?_)
   ·rw [if_neg c8] at H; have c8b0 : decide (x9_1 < (l1.length : Int)) = false := decide_eq_false c8; clear c8; obtain rfl := Option.some.inj H; go_wp2; go_ret; exact ⟨_, zq7, zq3 HO_7, zq1⟩
   rw [if_pos c8] at H; have c8b0 : decide (x9_1 < (l1.length : Int)) = true := decide_eq_true c8; clear c8; obtain ⟨c9, H⟩ := sqI H; replace c9 := decide_eq_true c9; obtain ⟨c10, H⟩ := sqI H; replace c10 := decide_eq_true c10; obtain ⟨c11, H⟩ := sqI H; replace c11 := decide_eq_true c11; obtain ⟨t147, A12, H⟩ := sqB H; obtain ⟨t148, A13, H⟩ := sqB H; obtain ⟨c14, H⟩ := sqI H; replace c14 := decide_eq_true c14; obtain ⟨y149, hy149⟩ : ∃ y_ : List Int, y_ = (x7_1.set ((rd l1 x9_1) : Int).toNat (wrap64 (t147 - t148))) := ⟨_, rfl⟩
   replace H : (spec_l06Start.l0 k1 l1 y149 (wrap64 (x8_1 + (rd l0_1 (rd l1 x9_1)))) (wrap64 (x9_1 + 1)) a0_0 l0_1) = some r := by first | (rw [hy149]; with_reducible exact H) | (have H2_ := (Option.bind_some _ _).symm.trans H; rw [hy149]; with_reducible exact H2_) | (have H2_ := (Option.bind_some _ _).symm.trans H; with_reducible exact H2_) | with_reducible exact H | (rw [hy149]; exact H) | exact H
   have Ny149 := mA hy149; clear hy149; have H' := mA H; clear H; (try go_wp2); replace HO_7 := mA (Kd.R_drew HO_7.out); replace BK40 := mA (blk_drew BK40.out); replace HB := mA (below_drew1 HB.out); have p144 : 0 ≤ (x9_1 : Int) := sqd; have q144 : x9_1 < (l1.length : Int) := sqd; obtain ⟨ad144, e144, hx144_0⟩ := Kd.at_int HR1.out x9_1 p144 q144; have hw144_0 := hx144_0
   cases e144
   replace hx144_0 := sqh HB hx144_0; replace p144 := eq_true p144; replace q144 := eq_true q144; have p145 : 0 ≤ ((rd l1 x9_1) : Int) := sqd; have q145 : (rd l1 x9_1) < (l0_1.length : Int) := sqd; obtain ⟨ad145, e145, hx145_0⟩ := Kd.at_int HR0_1.out (rd l1 x9_1) p145 q145; have hw145_0 := hx145_0
   cases e145
   replace hx145_0 := sqh HB hx145_0; replace p145 := eq_true p145; replace q145 := eq_true q145; refine start_ (n := 13) (S := fun w' => w'.cell? ⟨gv0_0_, 0, none⟩ = some (.int .i64 a0_0) ∧ w'.cell? ⟨gv0_0_, 1, none⟩ = some (.slice (some ad145) l0_1.length c0_1) ∧ w'.cell? (ad144.add (x9_1).toNat) = some (.int .i64 (rd l1 x9_1)) ∧ w'.cell? (ad145.add ((rd l1 x9_1)).toNat) = some (.int .i64 (rd l0_1 (rd l1 x9_1)))) (ds := []) #[false, false, false, false, false, false, false, false, false, false, false, false, false] (by kernel_rfl) rfl rfl ⟨(blk_cell BK40.out 0).trans rfl, (blk_cell BK40.out 1).trans rfl, ((HB.out.cell (World.block_lt_of_cell? w _ hw144_0)).trans hw144_0), ((HB.out.cell (World.block_lt_of_cell? w _ hw145_0)).trans hw145_0)⟩ (fun hHeld => ?_); refine with_tabW spec_l06Start.tab6 spec_l06Start.bits6 (fun HT_ HW_ => ?_); generalize wr.drew = w16 at HO_7 BK40 HB hx144_0 hx145_0 hHeld ⊢; refine sqr0 0 (some 21) ?_; refine sqr0 1 (some 22) ?_; refine sqr0 2 (some 23) ?_; refine sqr0 3 (some 24) ?_; refine sqr0 5 (some 26) ?_; refine sqr0 6 (some 27) ?_; refine sqr0 7 (some 28) ?_; refine sqr4 4 (some 25) ?_; refine sqr4 8 (some 29) ?_; refine sqr0 9 (some 30) ?_; refine sqr4 10 (some 31) ?_; refine sqr0 11 (some 32) ?_; refine sqr0 12 (some 10) ?_; refine done_ (done_of HT_.out (by kernel_rfl)) ?_; (try go_wp2); replace HO_7 := mA (Kd.R_drew HO_7.out); replace BK40 := mA (blk_drew BK40.out); replace HB := mA (below_drew1 HB.out); have p146 : 0 ≤ (x9_1 : Int) := sqd; have q146 : x9_1 < (l1.length : Int) := sqd; obtain ⟨ad146, e146, hx146_0⟩ := Kd.at_int HR1.out x9_1 p146 q146; have hw146_0 := hx146_0; obtain rfl : ad144 = ad146 := (by injection e146); replace hx146_0 := sqh HB hx146_0; replace p146 := eq_true p146; replace q146 := eq_true q146; refine start_ (n := 20) (S := fun w' => w'.cell? ⟨gv0_0_, 0, none⟩ = some (.int .i64 a0_0) ∧ w'.cell? ⟨gv0_0_, 1, none⟩ = some (.slice (some ad145) l0_1.length c0_1) ∧ w'.cell? (ad144.add (x9_1).toNat) = some (.int .i64 (rd l1 x9_1))) (ds := [19]) #[false, false, false, false, false, false, false, false, false, false, false, false, false, false, false, false, false, false, false, false] (by kernel_rfl) rfl rfl ⟨(blk_cell BK40.out 0).trans rfl, (blk_cell BK40.out 1).trans rfl, ((HB.out.cell (World.block_lt_of_cell? w _ hw146_0)).trans hw146_0)⟩ (fun hHeld => ?_); refine with_tabW spec_l06Start.tab7 spec_l06Start.bits7 (fun HT_ HW_ => ?_); generalize w16.drew = w17 at HO_7 BK40 HB hx146_0 hHeld ⊢; refine sqr0 0 (some 33) ?_; refine sqr0 1 (some 34) ?_; refine sqr0 2 (some 35) ?_; refine sqr0 3 (some 36) ?_; refine sqr0 5 (some 38) ?_; refine sqr0 6 (some 39) ?_; refine sqr0 7 (some 40) ?_; refine sqr0 8 (some 41) ?_; refine sqr0 11 (some 44) ?_; refine sqr0 12 (some 45) ?_; refine sqr0 13 (some 46) ?_; refine sqr0 14 (some 47) ?_; refine sqr5 4 (some 37) ?_; refine sqr5 9 (some 42) ?_; refine sqr5 15 (some 48) ?_; refine sqr2 10 (some 43) (fun K hK => ?_); refine goes_ Try.func116 (by kernel_rfl) rfl #[.int .i64 (wrap64 (x8_1 + (rd l0_1 (rd l1 x9_1)))), .int .i64 a0_0] (by rfl) rfl rfl zq15 ?_; (with_reducible refine (spec_l01Floor.calls (wrap64 (x8_1 + (rd l0_1 (rd l1 x9_1)))) a0_0 t147 _ A12.out).mono ?_); rintro e w' ⟨rfl, ⟨nd, rfl⟩⟩; refine ⟨_, rfl, ?_⟩; refine hK.out _ _ ⟨(blk_cell BK40.out 0).trans rfl, (blk_cell BK40.out 1).trans rfl, ((HB.out.cell (World.block_lt_of_cell? w _ hw146_0)).trans hw146_0)⟩ (fun hHeld => ?_); clear hK K; refine sqr3 ?_; refine sqr2 16 (some 49) (fun K hK => ?_)
   refine goes_ Try.func116 (by kernel_rfl) rfl #[.int .i64 x8_1, .int .i64 a0_0] (by rfl) rfl rfl zq15 ?_; (with_reducible refine (spec_l01Floor.calls x8_1 a0_0 t148 _ A13.out).mono ?_); rintro e w' ⟨rfl, ⟨nd, rfl⟩⟩; refine ⟨_, rfl, ?_⟩; have p15 : 0 ≤ ((rd l1 x9_1) : Int) := sqd; have q15 : ((rd l1 x9_1) : Int) < ((x7_1.length : Int) : Int) := sqd; obtain ⟨go15, co15, eo15, gb15, gl15, cl15, HG15⟩ := Kd.R_form HO_7.out (by omega); (first | cases eo15 | (injection eo15 with ea_ en_ ec_; (first | subst ea_ | (injection ea_ with ea_; subst ea_)); subst ec_; clear en_)); have GB15 := mA gb15; have GG15 := mA HG15; clear gb15 gl15 HG15; obtain ⟨hx15_0, hf15_0⟩ := Kd.R_celln 0 HO_7.out ((rd l1 x9_1) : Int) p15 q15; replace p15 := eq_true p15; replace q15 := eq_true q15; have HP18 := Kd.R_putn HO_7.out ((rd l1 x9_1) : Int) (wrap64 (t147 - t148)); rw [← Ny149.out] at HP18; have HQ18 := mA HP18; clear HP18; refine hK.out _ _ ⟨(blk_cell BK40.out 0).trans rfl, (blk_cell BK40.out 1).trans rfl, ((HB.out.cell (World.block_lt_of_cell? w _ hw146_0)).trans hw146_0)⟩ (fun hHeld => ?_); clear hK K; refine sqr3 ?_; refine sqr0 17 (some 50) ?_; refine sqr0 18 (some 51) ?_; refine last_ (i := 19) (N := none) #[true, true, true, true, true, true, true, true, true, true, true, true, true, true, true, true, true, true, true, true] rfl rfl (one_of HT_.out (by kernel_rfl)) (by decide) (fun K hK => ?_); refine skip_ (w1 := ?_) (by rfl) rfl ?_ ?_; rotate_left
   ·go_simp; rfl
   refine hK.out _ _ ?_; clear hK K; refine done_ (done_of HT_.out (by kernel_rfl)) ?_; (try go_wp2); go_roundg k1
   case measure => have := HK1.out; omega
   case rel => exact ⟨(y149), (wrap64 (x8_1 + (rd l0_1 (rd l1 x9_1)))), (wrap64 (x9_1 + 1)), zq4, zq4, H', ⟨by have := HK1.out; omega⟩, ⟨zq3 HQ18⟩, ⟨by (with_reducible repeat (first | refine blk_drewN ?_ _ | refine blk_drew ?_ | refine blk_alloc ?_ _)); refine blk_far ?_ (by have h_ := Kd.R_ne HO_7.out BK40.out (by decide); intro e_; exact h_ (by rw [e_]; rfl)) _; (with_reducible repeat (first | refine blk_drewN ?_ _ | refine blk_drew ?_ | refine blk_alloc ?_ _)); exact BK40.out⟩, ⟨by repeat (first | (with_reducible first | exact HB.out | apply below_alloc | apply pw_below_drewN | apply below_drew1 | refine below_set ?_ GB15.out | refine below_set ?_ (Aside0.out (by assumption))) | exact HB.out)⟩⟩

end Go.Proofs.Ytlhpejabdmejbaa.PFnExactSystematicMixture
