/- Written by this session's program (wip/tool/xprint.py) over the kit's printer. -/
import Derived.Test.YtlhpejabdmejbaaPFnMeansx0
import Derived.Test.YtlhpejabdmejbaaPFnMeansx1
namespace Go.Proofs.Ytlhpejabdmejbaa.PFnMeans
open Go.RowKit Go.Proofs.YtlhpejabdmejbaaW.PrintWords Go.Proofs.YtlhpejabdmejbaaW.PrintLast Go.Proofs.YtlhpejabdmejbaaW.PrintMore
attribute [local go_sem] max2_int min2_int max_two min_two max_three min_three max_four min_four   -- for this text's walks alone
set_option linter.unusedVariables false
set_option linter.unusedSimpArgs false

/-! ### spec_l01Is: function 74 -/
def spec_l01Is.l0 : Nat → Int → Int → List Int → Option (Bool)
  | 0, _, _, _ => none
  | k + 1, x3, x41000, x41001 => if x3 < (x41001.length : Int) then (if 0 ≤ x3 then ((spec_l00In.f (rd x41001 x3) (-1000000) 1000000).bind fun t118 => (if t118 = true then (spec_l01Is.l0 k (wrap64 (x3 + 1)) x41000 x41001) else (some false))) else (none)) else ((spec_l00In.f x41000 1 1000).bind fun t119 => (if t119 = true then (some (decide ((x41001.length : Int) ≤ 40))) else (some false)))
def spec_l01Is.f (k : Nat) (a0_0 : Int) (l0_1 : List Int) : Option (Bool) := spec_l01Is.l0 k 0 a0_0 l0_1
theorem spec_l01Is.mono_l : ∀ k, (∀ y0 y1 y2, LeO (spec_l01Is.l0 k y0 y1 y2) (spec_l01Is.l0 (k + 1) y0 y1 y2))
  | 0 => fun _ _ _ r h => by simp [spec_l01Is.l0] at h
  | k + 1 => by
   have ih0 := spec_l01Is.mono_l k
   intros
   unfold spec_l01Is.l0
   all_goals repeat' first | (with_reducible first | apply ih0 | exact LeO.refl _ | exact LeO.none _ | refine LeO.ite ?_ ?_ | refine LeO.bind ?_ (fun _ => ?_)) | apply ih0 | exact LeO.none _ | refine LeO.ite ?_ ?_ | refine LeO.bind ?_ (fun _ => ?_)
theorem spec_l01Is.mono : ∀ a0 a1 k, LeO (spec_l01Is.f k a0 a1) (spec_l01Is.f (k + 1) a0 a1) := by
  intro a0 a1 k
  have ih0 := spec_l01Is.mono_l k
  unfold spec_l01Is.f
  repeat' first | (with_reducible first | apply ih0 | exact LeO.refl _ | exact LeO.none _ | refine LeO.ite ?_ ?_ | refine LeO.bind ?_ (fun _ => ?_)) | apply ih0 | exact LeO.none _ | refine LeO.ite ?_ ?_ | refine LeO.bind ?_ (fun _ => ?_)
set_option maxHeartbeats 8000000 in
set_option maxRecDepth 100000 in
theorem spec_l01Is.calls (k : Nat) (gv0_0_ : Nat) (a0_0 : Int) (A0_1 : Option Addr) (c0_1 : Nat) (l0_1 : List Int) (r : Bool) (w : World) (hbx0_0_ : w.heap[gv0_0_]? = some (.cells #[.int .i64 a0_0, .slice A0_1 l0_1.length c0_1] 43 (0, 0))) (hr0_1 : Kd.C (Kd.int .i64) w A0_1 l0_1.length l0_1) (hc0_1 : l0_1.length ≤ c0_1) (h : spec_l01Is.f k a0_0 l0_1 = some r) :
    Calls Try.prog 74 #[.pointer (some ⟨gv0_0_, 0, none⟩)] w fun e w' => e = .returned (.bool r) ∧ Below w.heap.size w w' := by
 have HR0_1 := mA hr0_1; have HC0_1 := mA hc0_1; clear hr0_1 hc0_1; have BK40 := mA hbx0_0_; clear hbx0_0_; have HB := mA (Below.refl w.heap.size w); have H : (spec_l01Is.l0 k 0 a0_0 l0_1) = some r := h; clear h; have H' := mA H; clear H; go_enter Try.func74, Try.ntmps74; go_wp2; go_loopg [3] k (fun kq v3 w' => ∃ (x3_1 : Int), v3 = .int .i64 x3_1 ∧ Aside0 (spec_l01Is.l0 kq x3_1 a0_0 l0_1 = some r) ∧ Aside0 (kq ≤ k) ∧ Aside0 (w'.heap[gv0_0_]? = some (.cells #[.int .i64 a0_0, (.slice A0_1 l0_1.length c0_1)] 43 (0, 0))) ∧ Aside0 (Below w.heap.size w w'))
 case atStart => exact ⟨(0), zq3, H', ⟨Nat.le_refl _⟩, ⟨zq0 BK40⟩, ⟨zq1⟩⟩
 case round =>
  clear H'; obtain ⟨x3_1, rfl, HA, HK1, BK40, HB⟩ := hrel
  cases gk with
  | zero => exact absurd HA.out (by simp [spec_l01Is.l0])
  | succ k1 =>
   have H := HA.out; clear HA; simp only [spec_l01Is.l0] at H; refine sqC (x3_1 < (l0_1.length : Int)) (fun c2 => ?_) (fun c2 => ?_)
   ·rw [if_neg c2] at H; replace c2 := decide_eq_false c2; obtain ⟨t119, A8, H⟩ := sqB H; by_cases c9 : t119 = true
    ·subst c9; rw [if_pos rfl] at H; obtain rfl := Option.some.inj H; have hcz10_0 := sqZ0 BK40; have hcz10_1 := sqZ1 BK40; have hfz10_0 := blk_frozen BK40.out 0; have hfz10_1 := blk_frozen BK40.out 1; go_wp2_with (first | (refine sqG 63 (some 26) Try.func63 #[.int .i64 a0_0, .int .i64 1, .int .i64 1000] (h := ?_); (with_reducible refine (spec_l00In.calls a0_0 1 1000 true _ A8.out).mono ?_); rintro e w' ⟨rfl, ⟨nd, rfl⟩⟩; refine ⟨_, rfl, ?_⟩)); go_ret; exact ⟨zq7, zq1⟩
    replace c9 := Bool.eq_false_iff.mpr c9; subst c9; rw [if_neg (show ¬ (false = true) by decide)] at H; obtain rfl := Option.some.inj H; have hcz11_0 := sqZ0 BK40; have hcz11_1 := sqZ1 BK40; have hfz11_0 := blk_frozen BK40.out 0; have hfz11_1 := blk_frozen BK40.out 1; go_wp2_with (first | (refine sqG 63 (some 26) Try.func63 #[.int .i64 a0_0, .int .i64 1, .int .i64 1000] (h := ?_); (with_reducible refine (spec_l00In.calls a0_0 1 1000 false _ A8.out).mono ?_); rintro e w' ⟨rfl, ⟨nd, rfl⟩⟩; refine ⟨_, rfl, ?_⟩)); go_ret; exact ⟨zq7, zq1⟩
   rw [if_pos c2] at H; replace c2 := decide_eq_true c2; obtain ⟨c3, H⟩ := sqI H; replace c3 := decide_eq_true c3; obtain ⟨t118, A4, H⟩ := sqB H; refine sqC (t118 = true) (fun c5 => ?_) (fun c5 => ?_)
   ·replace c5 := Bool.eq_false_iff.mpr c5; subst c5; rw [if_neg (show ¬ (false = true) by decide)] at H; obtain rfl := Option.some.inj H; have hcz7_0 := sqZ0 BK40; have hcz7_1 := sqZ1 BK40; have hfz7_0 := blk_frozen BK40.out 0; have hfz7_1 := blk_frozen BK40.out 1; have p117 : 0 ≤ (x3_1 : Int) := sqd; have q117 : x3_1 < (l0_1.length : Int) := sqd; obtain ⟨ad117, e117, hx117_0⟩ := Kd.at_int HR0_1.out x3_1 p117 q117
    cases e117
    replace hx117_0 := sqh HB hx117_0; replace p117 := eq_true p117; replace q117 := eq_true q117; go_wp2_with (first | (refine sqG 63 (some 20) Try.func63 #[.int .i64 (rd l0_1 x3_1), .int .i64 (-1000000), .int .i64 1000000] (h := ?_); (with_reducible refine (spec_l00In.calls (rd l0_1 x3_1) (-1000000) 1000000 false _ A4.out).mono ?_); rintro e w' ⟨rfl, ⟨nd, rfl⟩⟩; refine ⟨_, rfl, ?_⟩)); go_ret; exact ⟨zq7, zq1⟩
   subst c5; rw [if_pos rfl] at H; have H' := mA H; clear H; have hcz6_0 := sqZ0 BK40; have hcz6_1 := sqZ1 BK40; have hfz6_0 := blk_frozen BK40.out 0; have hfz6_1 := blk_frozen BK40.out 1; have p117 : 0 ≤ (x3_1 : Int) := sqd; have q117 : x3_1 < (l0_1.length : Int) := sqd; obtain ⟨ad117, e117, hx117_0⟩ := Kd.at_int HR0_1.out x3_1 p117 q117
   cases e117
   replace hx117_0 := sqh HB hx117_0; replace p117 := eq_true p117; replace q117 := eq_true q117; go_wp2_with (first | (refine sqG 63 (some 20) Try.func63 #[.int .i64 (rd l0_1 x3_1), .int .i64 (-1000000), .int .i64 1000000] (h := ?_); (with_reducible refine (spec_l00In.calls (rd l0_1 x3_1) (-1000000) 1000000 true _ A4.out).mono ?_); rintro e w' ⟨rfl, ⟨nd, rfl⟩⟩; refine ⟨_, rfl, ?_⟩)); go_roundg k1
   case measure => have := HK1.out; omega
   case rel => exact ⟨(wrap64 (x3_1 + 1)), zq3, H', ⟨zq22 HK1⟩, ⟨zq0 BK40⟩, ⟨zq1⟩⟩

/-! ### spec_l06Sums: function 76 -/
mutual
def spec_l06Sums.l0 : Nat → List Int → Int → List Int → List (List Int) → Option (List Int)
  | 0, _, _, _, _ => none
  | k + 1, x3, x4, x41000, x41001 => if x4 < (x41001.length : Int) then (spec_l06Sums.l1 k x3 x4 0 x41000 x41001) else (some x3)
def spec_l06Sums.l1 : Nat → List Int → Int → Int → List Int → List (List Int) → Option (List Int)
  | 0, _, _, _, _, _ => none
  | k + 1, x3, x4, x5, x41000, x41001 => if x5 < (x3.length : Int) then (if 0 ≤ x5 then (if 0 ≤ x4 then (if x4 < (x41000.length : Int) then (if x4 < (x41001.length : Int) then (if x5 < ((rd_L1 x41001 x4).length : Int) then (spec_l06Sums.l1 k (x3.set (x5 : Int).toNat (wrap64 ((rd x3 x5) + (wrap64 ((rd x41000 x4) * (rd (rd_L1 x41001 x4) x5)))))) x4 (wrap64 (x5 + 1)) x41000 x41001) else (none)) else (none)) else (none)) else (none)) else (none)) else (spec_l06Sums.l0 k x3 (wrap64 (x4 + 1)) x41000 x41001)
end
def spec_l06Sums.f (k : Nat) (l0_0 : List Int) (l0_1 : List (List Int)) : Option (List Int) := if 0 < (l0_1.length : Int) then (if 0 ≤ ((rd_L1 l0_1 0).length : Int) then (if (((rd_L1 l0_1 0).length : Int) : Int).toNat ≤ 35184372088832 then (spec_l06Sums.l0 k (List.replicate (((rd_L1 l0_1 0).length : Int) : Int).toNat 0) 0 l0_0 l0_1) else (none)) else (none)) else (none)
theorem spec_l06Sums.mono_l : ∀ k, (∀ y0 y1 y2 y3, LeO (spec_l06Sums.l0 k y0 y1 y2 y3) (spec_l06Sums.l0 (k + 1) y0 y1 y2 y3)) ∧ (∀ y0 y1 y2 y3 y4, LeO (spec_l06Sums.l1 k y0 y1 y2 y3 y4) (spec_l06Sums.l1 (k + 1) y0 y1 y2 y3 y4))
  | 0 => ⟨fun _ _ _ _ r h => by simp [spec_l06Sums.l0] at h, fun _ _ _ _ _ r h => by simp [spec_l06Sums.l1] at h⟩
  | k + 1 => by
   obtain ⟨ih0, ih1⟩ := spec_l06Sums.mono_l k
   refine ⟨?_, ?_⟩ <;> intros
   all_goals first | unfold spec_l06Sums.l0 | unfold spec_l06Sums.l1
   all_goals repeat' first | (with_reducible first | apply ih0 | apply ih1 | exact LeO.refl _ | exact LeO.none _ | refine LeO.ite ?_ ?_ | refine LeO.bind ?_ (fun _ => ?_)) | apply ih0 | apply ih1 | exact LeO.none _ | refine LeO.ite ?_ ?_ | refine LeO.bind ?_ (fun _ => ?_)
theorem spec_l06Sums.mono : ∀ a0 a1 k, LeO (spec_l06Sums.f k a0 a1) (spec_l06Sums.f (k + 1) a0 a1) := by
  intro a0 a1 k
  obtain ⟨ih0, ih1⟩ := spec_l06Sums.mono_l k
  unfold spec_l06Sums.f
  repeat' first | (with_reducible first | apply ih0 | apply ih1 | exact LeO.refl _ | exact LeO.none _ | refine LeO.ite ?_ ?_ | refine LeO.bind ?_ (fun _ => ?_)) | apply ih0 | apply ih1 | exact LeO.none _ | refine LeO.ite ?_ ?_ | refine LeO.bind ?_ (fun _ => ?_)
def spec_l06Sums.T8 : Bool × List (List Nat × List Nat) := (true, [([], []), ([], []), ([0, 1], [0, 1]), ([2], [2]), ([], []), ([4], [4]), ([5], [5]), ([6], [6]), ([], []), ([7, 8], [7, 8]), ([9], [9]), ([], []), ([11], [11]), ([12], [12]), ([13], [13]), ([], []), ([14, 15], [14, 15]), ([16], [16]), ([], []), ([17, 18], [17, 18]), ([19], [19]), ([10, 20], [10, 20]), ([3, 21], [3, 21]), ([0, 1, 0, 1, 2, 3, 4, 5, 6, 7, 8, 9, 10, 11, 12, 13, 14, 15, 16, 17, 18, 19, 20, 21, 22], [0, 1]), ([23, 22, 0, 1, 2, 3, 4, 5, 6, 7, 8, 9, 10, 11, 12, 13, 14, 15, 16, 17, 18, 19, 20, 21, 22], [22, 23])])
def spec_l06Sums.B8 : List Nat := [0, 0, 3, 7, 0, 16, 48, 112, 0, 496, 1008, 0, 2048, 6144, 14336, 0, 63488, 129024, 0, 522240, 1046528, 2097136, 4194303, 8388607, 16777215]
theorem spec_l06Sums.tab8 : rtab .any (opsOf Try.f76 8) = spec_l06Sums.T8 := by kernel_rfl
theorem spec_l06Sums.bits8 : waitsOk spec_l06Sums.T8.2 spec_l06Sums.B8 = true := by kernel_rfl
set_option maxHeartbeats 8000000 in
set_option maxRecDepth 100000 in
theorem spec_l06Sums.calls (k : Nat) (gv0_0_ : Nat) (A0_0 : Option Addr) (c0_0 : Nat) (l0_0 : List Int) (A0_1 : Option Addr) (c0_1 : Nat) (l0_1 : List (List Int)) (r : List Int) (w : World) (hbx0_0_ : w.heap[gv0_0_]? = some (.cells #[.slice A0_0 l0_0.length c0_0, .slice A0_1 l0_1.length c0_1] 29 (0, 0))) (hr0_0 : Kd.C (Kd.int .i64) w A0_0 l0_0.length l0_0) (hc0_0 : l0_0.length ≤ c0_0) (hr0_1 : Kd.C (Kd.slice 2 (Kd.int .i64)) w A0_1 l0_1.length l0_1) (hc0_1 : l0_1.length ≤ c0_1) (h : spec_l06Sums.f k l0_0 l0_1 = some r) :
    Calls Try.prog 76 #[.pointer (some ⟨gv0_0_, 0, none⟩)] w fun e w' => ∃ v0_ : Value, e = .returned (v0_) ∧ Kd.R (Kd.int .i64) 2 w' w.heap.size (fun _ => True) v0_ r ∧ Below w.heap.size w w' := by
 have HR0_0 := mA hr0_0; have HC0_0 := mA hc0_0; clear hr0_0 hc0_0; have HR0_1 := mA hr0_1; have HC0_1 := mA hc0_1; clear hr0_1 hc0_1; have BK40 := mA hbx0_0_; clear hbx0_0_; have HB := mA (Below.refl w.heap.size w); have H : (if 0 < (l0_1.length : Int) then (if 0 ≤ ((rd_L1 l0_1 0).length : Int) then (if (((rd_L1 l0_1 0).length : Int) : Int).toNat ≤ 35184372088832 then (spec_l06Sums.l0 k (List.replicate (((rd_L1 l0_1 0).length : Int) : Int).toNat 0) 0 l0_0 l0_1) else (none)) else (none)) else (none)) = some r := h; clear h; obtain ⟨c2, H⟩ := sqI H; have c2b0 := decide_eq_true c2; have c2b1 : decide (0 < l0_1.length) = true := decide_eq_true (by omega); clear c2; obtain ⟨c3, H⟩ := sqI H; have c3b0 := eq_true c3; have c3b1 := decide_eq_true c3; clear c3; obtain ⟨c4, H⟩ := sqI H; have c4b0 := eq_true c4; have c4b1 := decide_eq_true c4; clear c4; obtain ⟨y121, hy121⟩ : ∃ y_ : List Int, y_ = (List.replicate (((rd_L1 l0_1 0).length : Int) : Int).toNat 0) := ⟨_, rfl⟩
 replace H : (spec_l06Sums.l0 k y121 0 l0_0 l0_1) = some r := by first | (rw [hy121]; with_reducible exact H) | (have H2_ := (Option.bind_some _ _).symm.trans H; rw [hy121]; with_reducible exact H2_) | (have H2_ := (Option.bind_some _ _).symm.trans H; with_reducible exact H2_) | with_reducible exact H | (rw [hy121]; exact H) | exact H
 have Ny121 := mA hy121; clear hy121; have H' := mA H; clear H; have hcz5_0 := sqZ0 BK40; have hcz5_1 := sqZ1 BK40; have hfz5_0 := blk_frozen BK40.out 0; have hfz5_1 := blk_frozen BK40.out 1; have p120 : 0 ≤ (0 : Int) := (by omega); have q120 : 0 < (l0_1.length : Int) := sqd; obtain ⟨ad120, A120_0, c120_0, e120, hx120_0, hl120_0, hi120_0⟩ := at_L1 HR0_1.out 0 p120 q120
 cases e120
 have qi120 : (0 < l0_1.length) = True := eq_true (by omega); (try rw [show ((0 : Int)).toNat = 0 from rfl] at hx120_0); (try rw [Addr.add_zero'] at hx120_0); have HR120_0 := mA hi120_0; have HC120_0 := mA hl120_0; clear hi120_0 hl120_0; replace p120 := eq_true p120; replace q120 := eq_true q120; go_enter Try.func76, Try.ntmps76; go_wp2_with (first | ((with_reducible refine gate_dst (N := 13) rfl ?_); refine Kd.R_make (Kd.int .i64) _ 2 rfl (N := 13) rfl 22 _ _ rfl ((rd_L1 l0_1 0).length : Int) rfl rfl Try.underlying22 (.int .i64 0) 8 info2 rfl (by decide) (by omega) 0 (ok := fun _ => True) (okp := fun _ => True) rfl (fun _ hk => hk) trivial (sqd) (Nat.le_trans (Nat.mul_le_mul_right _ (sqd : ((rd_L1 l0_1 0).length : Int).toNat ≤ 35184372088832)) (by omega)) (Below.refl _ _) (Nat.le_refl _) ?_; intro v122 w6 ho7 hb hg_ hnew_; clear hg_ hnew_; (first | rw [← Ny121.out] at ho7 | (simp only [Int.reduceToNat] at ho7; rw [← Ny121.out] at ho7)); have HO123 := mA (Kd.R_lower ho7 (below_size zq1)); replace BK40 := mA (blk_below (g := gv0_0_) (o := .cells #[.slice A0_0 l0_0.length c0_0, .slice (some ad120) l0_1.length c0_1] 29 (0, 0)) (zq0 BK40) hb); replace HB := mA (below_step zq1 hb); clear hb ho7)); go_loopg [4] k (fun kq v4 w' => ∃ (x3_1 : List Int) (x4_1 : Int), v4 = .int .i64 x4_1 ∧ Aside0 (spec_l06Sums.l0 kq x3_1 x4_1 l0_0 l0_1 = some r) ∧ Aside0 (kq ≤ k) ∧ Aside0 (Kd.R (Kd.int .i64) 2 w' w.heap.size (fun _ => True) v122 x3_1) ∧ Aside0 (w'.heap[gv0_0_]? = some (.cells #[(.slice A0_0 l0_0.length c0_0), (.slice (some ad120) l0_1.length c0_1)] 29 (0, 0))) ∧ Aside0 (Below w.heap.size w w'))
 case atStart => exact ⟨(y121), (0), zq3, H', ⟨Nat.le_refl _⟩, ⟨zq2 HO123⟩, ⟨zq0 BK40⟩, ⟨zq1⟩⟩
 case round =>
  clear H'; (try clear c2); (try clear c2b0); (try clear c2b1); (try clear c3); (try clear c3b0); (try clear c3b1); (try clear c4); (try clear c4b0); (try clear c4b1); (try clear hcz5_0); (try clear hcz5_1); (try clear hfz5_0); (try clear hfz5_1); (try clear hx120_0); (try clear p120); (try clear q120); obtain ⟨x3_1, x4_1, rfl, HA, HK1, HO_3, BK40, HB⟩ := hrel
  cases gk with
  | zero => exact absurd HA.out (by simp [spec_l06Sums.l0])
  | succ k1 =>
   have H := HA.out; clear HA; simp only [spec_l06Sums.l0] at H; refine sqC (x4_1 < (l0_1.length : Int)) (fun c8 => ?_) (fun c8 => ?_)
   ·rw [if_neg c8] at H; replace c8 := decide_eq_false c8; obtain rfl := Option.some.inj H; have hcz21_0 := sqZ0 BK40; have hcz21_1 := sqZ1 BK40; have hfz21_0 := blk_frozen BK40.out 0; have hfz21_1 := blk_frozen BK40.out 1; go_wp2; go_ret; exact ⟨_, zq7, zq2 HO_3, zq1⟩
   rw [if_pos c8] at H; replace c8 := decide_eq_true c8; have H' := mA H; clear H; have hcz9_0 := sqZ0 BK40; have hcz9_1 := sqZ1 BK40; have hfz9_0 := blk_frozen BK40.out 0; have hfz9_1 := blk_frozen BK40.out 1; go_wp2; go_loopg [5] k1 (fun kq v5 w' => ∃ (x3_2 : List Int) (x5_2 : Int), v5 = .int .i64 x5_2 ∧ Aside0 (spec_l06Sums.l1 kq x3_2 x4_1 x5_2 l0_0 l0_1 = some r) ∧ Aside0 (kq ≤ k1) ∧ Aside0 (Kd.R (Kd.int .i64) 2 w' w.heap.size (fun _ => True) v122 x3_2) ∧ Aside0 (w'.heap[gv0_0_]? = some (.cells #[(.slice A0_0 l0_0.length c0_0), (.slice (some ad120) l0_1.length c0_1)] 29 (0, 0))) ∧ Aside0 (Below w.heap.size w w'))
   case atStart => exact ⟨(x3_1), (0), zq3, H', ⟨Nat.le_refl _⟩, ⟨zq2 HO_3⟩, ⟨zq0 BK40⟩, ⟨zq1⟩⟩
   case round =>
    clear H'; (try clear c2); (try clear c2b0); (try clear c2b1); (try clear c3); (try clear c3b0); (try clear c3b1); (try clear c4); (try clear c4b0); (try clear c4b1); (try clear c8); (try clear c8b0); (try clear hcz5_0); (try clear hcz5_1); (try clear hcz9_0); (try clear hcz9_1); (try clear hfz5_0); (try clear hfz5_1); (try clear hfz9_0); (try clear hfz9_1); (try clear hx120_0); (try clear p120); (try clear q120); obtain ⟨x3_2, x5_2, rfl, HA, HK2, HO_3, BK40, HB⟩ := hrel
    cases gk with
    | zero => exact absurd HA.out (by simp [spec_l06Sums.l1])
    | succ k2 =>
     have H := HA.out; clear HA; simp only [spec_l06Sums.l1] at H; refine sqC (x5_2 < (x3_2.length : Int)) (fun c10 => ?_) (fun c10 => ?_)
     ·rw [if_neg c10] at H; replace c10 := decide_eq_false c10; have H' := mA H; clear H; obtain ⟨Ao20, co20, eo20⟩ := Kd.R_slice HO_3.out; subst eo20; go_wp2; go_roundg k2
      case measure => have := HK1.out; have := HK2.out; omega
      case rel => exact ⟨(x3_2), (wrap64 (x4_1 + 1)), zq3, H', ⟨zq28 HK1 HK2⟩, ⟨zq2 HO_3⟩, ⟨zq0 BK40⟩, ⟨zq1⟩⟩
     rw [if_pos c10] at H; replace c10 := decide_eq_true c10; obtain ⟨c11, H⟩ := sqI H; replace c11 := decide_eq_true c11; obtain ⟨c12, H⟩ := sqI H; replace c12 := decide_eq_true c12; obtain ⟨c13, H⟩ := sqI H; replace c13 := decide_eq_true c13; obtain ⟨c14, H⟩ := sqI H; replace c14 := decide_eq_true c14; obtain ⟨c15, H⟩ := sqI H; replace c15 := decide_eq_true c15; obtain ⟨y128, hy128⟩ : ∃ y_ : List Int, y_ = (x3_2.set (x5_2 : Int).toNat (wrap64 ((rd x3_2 x5_2) + (wrap64 ((rd l0_0 x4_1) * (rd (rd_L1 l0_1 x4_1) x5_2)))))) := ⟨_, rfl⟩
     replace H : (spec_l06Sums.l1 k2 y128 x4_1 (wrap64 (x5_2 + 1)) l0_0 l0_1) = some r := by first | (rw [hy128]; with_reducible exact H) | (have H2_ := (Option.bind_some _ _).symm.trans H; rw [hy128]; with_reducible exact H2_) | (have H2_ := (Option.bind_some _ _).symm.trans H; with_reducible exact H2_) | with_reducible exact H | (rw [hy128]; exact H) | exact H
     have Ny128 := mA hy128; clear hy128; have H' := mA H; clear H; obtain ⟨Ao17, co17, eo17⟩ := Kd.R_slice HO_3.out; subst eo17; (try go_wp2); replace HO_3 := mA (Kd.R_drew HO_3.out); replace BK40 := mA (blk_drew BK40.out); replace HB := mA (below_drew1 HB.out); have p124 : 0 ≤ (x5_2 : Int) := sqd; have q124 : x5_2 < (x3_2.length : Int) := sqd; obtain ⟨ad124, e124, hx124_0⟩ := Kd.at_int (Kd.R_reads' HO_3.out).2.2 x5_2 p124 q124
     cases e124
     replace p124 := eq_true p124; replace q124 := eq_true q124; have p125 : 0 ≤ (x4_1 : Int) := sqd; have q125 : x4_1 < (l0_0.length : Int) := sqd; obtain ⟨ad125, e125, hx125_0⟩ := Kd.at_int HR0_0.out x4_1 p125 q125; have hw125_0 := hx125_0
     cases e125
     replace hx125_0 := sqh HB hx125_0; replace p125 := eq_true p125; replace q125 := eq_true q125; have p126 : 0 ≤ (x4_1 : Int) := sqd; have q126 : x4_1 < (l0_1.length : Int) := sqd; obtain ⟨ad126, A126_0, c126_0, e126, hx126_0, hl126_0, hi126_0⟩ := at_L1 HR0_1.out x4_1 p126 q126; have hw126_0 := hx126_0; obtain rfl : ad120 = ad126 := (by injection e126); replace hx126_0 := sqh HB hx126_0; have HR126_0 := mA hi126_0; have HC126_0 := mA hl126_0; clear hi126_0 hl126_0; replace p126 := eq_true p126; replace q126 := eq_true q126; have p127 : 0 ≤ (x5_2 : Int) := sqd; have q127 : x5_2 < ((rd_L1 l0_1 x4_1).length : Int) := sqd; obtain ⟨ad127, e127, hx127_0⟩ := Kd.at_int HR126_0.out x5_2 p127 q127; have hw127_0 := hx127_0
     cases e127
     replace hx127_0 := sqh HB hx127_0; replace p127 := eq_true p127; replace q127 := eq_true q127; have p16 : 0 ≤ (x5_2 : Int) := sqd; have q16 : (x5_2 : Int) < ((x3_2.length : Int) : Int) := sqd; obtain ⟨go16, co16, eo16, gb16, gl16, cl16, HG16⟩ := Kd.R_form HO_3.out (by omega); (first | cases eo16 | (injection eo16 with ea_ en_ ec_; (first | subst ea_ | (injection ea_ with ea_; subst ea_)); subst ec_; clear en_)); have GB16 := mA gb16; have GG16 := mA HG16; clear gb16 gl16 HG16; (first | simp only [add_plain] at hx124_0 | skip); obtain ⟨hx16_0, hf16_0⟩ := Kd.R_celln 0 HO_3.out (x5_2 : Int) p16 q16; replace p16 := eq_true p16; replace q16 := eq_true q16; have HP19 := Kd.R_putn HO_3.out (x5_2 : Int) (wrap64 ((rd x3_2 x5_2) + (wrap64 ((rd l0_0 x4_1) * (rd (rd_L1 l0_1 x4_1) x5_2))))); rw [← Ny128.out] at HP19; have HQ19 := mA HP19; clear HP19; refine start_ (n := 25) (S := fun w' => w'.cell? ⟨gv0_0_, 0, none⟩ = some (.slice (some ad125) l0_0.length c0_0) ∧ w'.cell? ⟨gv0_0_, 1, none⟩ = some (.slice (some ad120) l0_1.length c0_1) ∧ w'.cell? ⟨go16, (x5_2).toNat, none⟩ = some (.int .i64 (rd x3_2 x5_2)) ∧ w'.cell? (ad125.add (x4_1).toNat) = some (.int .i64 (rd l0_0 x4_1)) ∧ w'.cell? (ad120.add (x4_1).toNat) = some (.slice (some ad127) (rd_L1 l0_1 x4_1).length c126_0) ∧ w'.cell? (ad127.add (x5_2).toNat) = some (.int .i64 (rd (rd_L1 l0_1 x4_1) x5_2))) (ds := [24]) #[false, false, false, false, false, false, false, false, false, false, false, false, false, false, false, false, false, false, false, false, false, false, false, false, false] (by kernel_rfl) rfl rfl ⟨(blk_cell BK40.out 0).trans rfl, (blk_cell BK40.out 1).trans rfl, hx124_0, ((HB.out.cell (World.block_lt_of_cell? w _ hw125_0)).trans hw125_0), ((HB.out.cell (World.block_lt_of_cell? w _ hw126_0)).trans hw126_0), ((HB.out.cell (World.block_lt_of_cell? w _ hw127_0)).trans hw127_0)⟩ (fun hHeld => ?_); refine with_tabW spec_l06Sums.tab8 spec_l06Sums.bits8 (fun HT_ HW_ => ?_); generalize wr.drew = w18 at HO_3 BK40 HB GG16 HQ19 HR126_0 hf16_0 hx124_0 hx125_0 hx126_0 hx127_0 hx16_0 hHeld ⊢; refine sqr0 0 (some 29) ?_; refine sqr0 1 (some 30) ?_; refine sqr0 2 (some 31) ?_; refine sqr0 4 (some 33) ?_; refine sqr0 5 (some 34) ?_; refine sqr0 6 (some 35) ?_; refine sqr0 8 (some 37) ?_; refine sqr0 11 (some 40) ?_; refine sqr0 12 (some 41) ?_; refine sqr0 13 (some 42) ?_; refine sqr0 15 (some 44) ?_; refine sqr0 18 (some 47) ?_; refine sqr8 3 (some 32) ?_; refine sqr8 7 (some 36) ?_; refine sqr0 9 (some 38) ?_; refine sqr8 10 (some 39) ?_; refine sqr8 14 (some 43) ?_; refine sqr0 16 (some 45) ?_; refine sqr8 17 (some 46) ?_; refine sqr0 19 (some 48) ?_; refine sqr8 20 (some 49) ?_; refine sqr0 21 (some 50) ?_; refine sqr0 22 (some 51) ?_; refine sqr0 23 (some 52) ?_; refine last_ (i := 24) (N := none) #[true, true, true, true, true, true, true, true, true, true, true, true, true, true, true, true, true, true, true, true, true, true, true, true, true] rfl rfl (one_of HT_.out (by kernel_rfl)) (by decide) (fun K hK => ?_); refine skip_ (w1 := ?_) (by rfl) rfl ?_ ?_; rotate_left
     ·go_simp; rfl
     refine hK.out _ _ ?_; clear hK K; refine done_ (done_of HT_.out (by kernel_rfl)) ?_; (try go_wp2); go_roundg k2
     case measure => have := HK1.out; have := HK2.out; omega
     case rel => exact ⟨(y128), (wrap64 (x5_2 + 1)), zq3, H', ⟨zq28 HK1 HK2⟩, ⟨zq2 HQ19⟩, ⟨zq64 HO_3 BK40⟩, ⟨zq65 GB16⟩⟩

/-! ### spec_l01Sum: function 77 -/
def spec_l01Sum.l0 : Nat → List Int → Int → Int → Option (Int)
  | 0, _, _, _ => none
  | k + 1, x0, x3, x4 => if x4 < (x0.length : Int) then (if 0 ≤ x4 then (spec_l01Sum.l0 k x0 (wrap64 (x3 + (rd x0 x4))) (wrap64 (x4 + 1))) else (none)) else (some x3)
def spec_l01Sum.f (k : Nat) (l0 : List Int) : Option (Int) := spec_l01Sum.l0 k l0 0 0
theorem spec_l01Sum.mono_l : ∀ k, (∀ y0 y1 y2, LeO (spec_l01Sum.l0 k y0 y1 y2) (spec_l01Sum.l0 (k + 1) y0 y1 y2))
  | 0 => fun _ _ _ r h => by simp [spec_l01Sum.l0] at h
  | k + 1 => by
   have ih0 := spec_l01Sum.mono_l k
   intros
   unfold spec_l01Sum.l0
   all_goals repeat' first | (with_reducible first | apply ih0 | exact LeO.refl _ | exact LeO.none _ | refine LeO.ite ?_ ?_ | refine LeO.bind ?_ (fun _ => ?_)) | apply ih0 | exact LeO.none _ | refine LeO.ite ?_ ?_ | refine LeO.bind ?_ (fun _ => ?_)
theorem spec_l01Sum.mono : ∀ a0 k, LeO (spec_l01Sum.f k a0) (spec_l01Sum.f (k + 1) a0) := by
  intro a0 k
  have ih0 := spec_l01Sum.mono_l k
  unfold spec_l01Sum.f
  repeat' first | (with_reducible first | apply ih0 | exact LeO.refl _ | exact LeO.none _ | refine LeO.ite ?_ ?_ | refine LeO.bind ?_ (fun _ => ?_)) | apply ih0 | exact LeO.none _ | refine LeO.ite ?_ ?_ | refine LeO.bind ?_ (fun _ => ?_)
set_option maxHeartbeats 8000000 in
set_option maxRecDepth 100000 in
theorem spec_l01Sum.calls (k : Nat) (A0 : Option Addr) (c0 : Nat) (l0 : List Int) (r : Int) (w : World) (hr0 : Kd.C (Kd.int .i64) w A0 l0.length l0) (hc0 : l0.length ≤ c0) (h : spec_l01Sum.f k l0 = some r) :
    Calls Try.prog 77 #[.slice A0 l0.length c0] w fun e w' => e = .returned (.int .i64 r) ∧ Drawn0 w w' := by
 have HR0 := mA hr0; have HC0 := mA hc0; clear hr0 hc0; have H : (spec_l01Sum.l0 k l0 0 0) = some r := h; clear h; have H' := mA H; clear H; go_enter Try.func77, Try.ntmps77; go_wp2; go_loopg [3, 4] k (fun kq v3 v4 w' => ∃ (x3_1 : Int) (x4_1 : Int), v3 = .int .i64 x3_1 ∧ v4 = .int .i64 x4_1 ∧ Aside0 (spec_l01Sum.l0 kq l0 x3_1 x4_1 = some r) ∧ Aside0 (kq ≤ k) ∧ Drawn0 w w')
 case atStart => exact ⟨(0), (0), zq3, zq3, H', ⟨Nat.le_refl _⟩, zq10⟩
 case round =>
  clear H'; obtain ⟨x3_1, x4_1, rfl, rfl, HA, HK1, ⟨m1, rfl⟩⟩ := hrel
  cases gk with
  | zero => exact absurd HA.out (by simp [spec_l01Sum.l0])
  | succ k1 =>
   have H := HA.out; clear HA; simp only [spec_l01Sum.l0] at H; refine sqC (x4_1 < (l0.length : Int)) (fun c2 => ?_) (fun c2 => ?_)
   ·rw [if_neg c2] at H; replace c2 := decide_eq_false c2; obtain rfl := Option.some.inj H; go_wp2; go_ret; exact ⟨zq3, zq10⟩
   rw [if_pos c2] at H; replace c2 := decide_eq_true c2; obtain ⟨c3, H⟩ := sqI H; replace c3 := decide_eq_true c3; have H' := mA H; clear H; have p129 : 0 ≤ (x4_1 : Int) := sqd; have q129 : x4_1 < (l0.length : Int) := sqd; obtain ⟨ad129, e129, hx129_0⟩ := Kd.at_int HR0.out x4_1 p129 q129
   cases e129
   replace p129 := eq_true p129; replace q129 := eq_true q129; go_wp2; go_roundg k1
   case measure => have := HK1.out; omega
   case rel => exact ⟨(wrap64 (x3_1 + (rd l0 x4_1))), (wrap64 (x4_1 + 1)), zq3, zq3, H', ⟨zq22 HK1⟩, zq10⟩

/-! ### spec_l00Max: function 121 -/
def spec_l00Max.f (a0 : Int) (a1 : Int) : Option (Int) := if a0 > a1 then (some a0) else (some a1)
set_option maxHeartbeats 8000000 in
set_option maxRecDepth 100000 in
theorem spec_l00Max.calls (a0 : Int) (a1 : Int) (r : Int) (w : World) (h : spec_l00Max.f a0 a1 = some r) :
    Calls Try.prog 121 #[.int .i64 a0, .int .i64 a1] w fun e w' => e = .returned (.int .i64 r) ∧ Drawn0 w w' := by
 have H : (if a0 > a1 then (some a0) else (some a1)) = some r := h; clear h; by_cases c3 : a0 > a1
 ·rw [if_pos c3] at H; replace c3 := decide_eq_true c3; obtain rfl := Option.some.inj H; go_enter Try.func121, Try.ntmps121; go_wp2; go_ret; exact ⟨zq3, zq10⟩
 rw [if_neg c3] at H; replace c3 := decide_eq_false c3; obtain rfl := Option.some.inj H; go_enter Try.func121, Try.ntmps121; go_wp2; go_ret; exact ⟨zq3, zq10⟩

/-! ### spec_l06Gcd: function 82 -/
def spec_l06Gcd.l0 : Nat → Int → Int → Option (Int)
  | 0, _, _ => none
  | k + 1, x0, x1 => if x0 > 0 then (if x0 = 0 then (none) else (spec_l06Gcd.l0 k (Int.tmod x1 x0) x0)) else (some x1)
def spec_l06Gcd.f (k : Nat) (a0 : Int) (a1 : Int) : Option (Int) := (spec_l00Max.f a0 (wrap64 (-a0))).bind fun t130 => (spec_l06Gcd.l0 k t130 a1)
theorem spec_l06Gcd.mono_l : ∀ k, (∀ y0 y1, LeO (spec_l06Gcd.l0 k y0 y1) (spec_l06Gcd.l0 (k + 1) y0 y1))
  | 0 => fun _ _ r h => by simp [spec_l06Gcd.l0] at h
  | k + 1 => by
   have ih0 := spec_l06Gcd.mono_l k
   intros
   unfold spec_l06Gcd.l0
   all_goals repeat' first | (with_reducible first | apply ih0 | exact LeO.refl _ | exact LeO.none _ | refine LeO.ite ?_ ?_ | refine LeO.bind ?_ (fun _ => ?_)) | apply ih0 | exact LeO.none _ | refine LeO.ite ?_ ?_ | refine LeO.bind ?_ (fun _ => ?_)
theorem spec_l06Gcd.mono : ∀ a0 a1 k, LeO (spec_l06Gcd.f k a0 a1) (spec_l06Gcd.f (k + 1) a0 a1) := by
  intro a0 a1 k
  have ih0 := spec_l06Gcd.mono_l k
  unfold spec_l06Gcd.f
  repeat' first | (with_reducible first | apply ih0 | exact LeO.refl _ | exact LeO.none _ | refine LeO.ite ?_ ?_ | refine LeO.bind ?_ (fun _ => ?_)) | apply ih0 | exact LeO.none _ | refine LeO.ite ?_ ?_ | refine LeO.bind ?_ (fun _ => ?_)
set_option maxHeartbeats 8000000 in
set_option maxRecDepth 100000 in
theorem spec_l06Gcd.calls (k : Nat) (a0 : Int) (a1 : Int) (r : Int) (w : World) (h : spec_l06Gcd.f k a0 a1 = some r) :
    Calls Try.prog 82 #[.int .i64 a0, .int .i64 a1] w fun e w' => e = .returned (.int .i64 r) ∧ Drawn0 w w' := by
 have H : ((spec_l00Max.f a0 (wrap64 (-a0))).bind fun t130 => (spec_l06Gcd.l0 k t130 a1)) = some r := h; clear h; obtain ⟨t130, A3, H⟩ := sqB H; have H' := mA H; clear H; go_enter Try.func82, Try.ntmps82; go_wp2_with (first | (refine sqG 121 (some 9) Try.func121 #[.int .i64 a0, .int .i64 (wrap64 (-a0))] (h := ?_); (with_reducible refine (spec_l00Max.calls a0 (wrap64 (-a0)) t130 _ A3.out).mono ?_); rintro e w' ⟨rfl, ⟨nd, rfl⟩⟩; refine ⟨_, rfl, ?_⟩)); go_loopg [0, 1] k (fun kq v0 v1 w' => ∃ (x0_1 : Int) (x1_1 : Int), v0 = .int .i64 x0_1 ∧ v1 = .int .i64 x1_1 ∧ Aside0 (spec_l06Gcd.l0 kq x0_1 x1_1 = some r) ∧ Aside0 (kq ≤ k) ∧ Drawn0 w w')
 case atStart => exact ⟨(t130), (a1), zq3, zq3, H', ⟨Nat.le_refl _⟩, zq10⟩
 case round =>
  clear H'; obtain ⟨x0_1, x1_1, rfl, rfl, HA, HK1, ⟨m1, rfl⟩⟩ := hrel
  cases gk with
  | zero => exact absurd HA.out (by simp [spec_l06Gcd.l0])
  | succ k1 =>
   have H := HA.out; clear HA; simp only [spec_l06Gcd.l0] at H; refine sqC (x0_1 > 0) (fun c4 => ?_) (fun c4 => ?_)
   ·rw [if_neg c4] at H; replace c4 := decide_eq_false c4; obtain rfl := Option.some.inj H; go_wp2; go_ret; exact ⟨zq3, zq10⟩
   rw [if_pos c4] at H; replace c4 := decide_eq_true c4; obtain ⟨c5, H⟩ := sqJ H; have c5b0 : (x0_1 == 0) = false := beq_eq_false_iff_ne.mpr c5; have c5b1 : (x0_1 != 0) = true := bne_iff_ne.mpr c5; have H' := mA H; clear H; go_wp2; go_roundg k1
   case measure => have := HK1.out; omega
   case rel => exact ⟨(Int.tmod x1_1 x0_1), (x0_1), zq3, zq3, H', ⟨zq22 HK1⟩, zq10⟩

end Go.Proofs.Ytlhpejabdmejbaa.PFnMeans
