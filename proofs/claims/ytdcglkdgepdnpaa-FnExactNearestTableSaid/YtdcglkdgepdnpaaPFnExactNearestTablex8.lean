/- Written by this session's program (wip/tool/xprint.py) over the kit's printer. -/
import Derived.Test.YtdcglkdgepdnpaaPFnExactNearestTablex0
namespace Go.Proofs.Ytdcglkdgepdnpaa.PFnExactNearestTable
open Go.RowKit Go.Proofs.YtdcglkdgepdnpaaW.PrintWords Go.Proofs.YtdcglkdgepdnpaaW.PrintLast Go.Proofs.YtdcglkdgepdnpaaW.PrintMore
attribute [local go_sem] max2_int min2_int max_two min_two max_three min_three max_four min_four   -- for this text's walks alone
set_option linter.unusedVariables false
set_option linter.unusedSimpArgs false

/-! ### spec_l01Sum: function 43 -/
def spec_l01Sum.l0 : Nat → List Int → Int → Int → Option (Int)
  | 0, _, _, _ => none
  | k + 1, x0, x3, x4 => if x4 < (x0.length : Int) then (if 0 ≤ x4 then (spec_l01Sum.l0 k x0 (wrap64 (x3 + (rd x0 x4))) (wrap64 (x4 + 1))) else (none)) else (some x3)
def spec_l01Sum.f (k : Nat) (l0 : List Int) : Option (Int) := spec_l01Sum.l0 k l0 0 0
theorem spec_l01Sum.mono_l : ∀ k, (∀ y0 y1 y2, LeO (spec_l01Sum.l0 k y0 y1 y2) (spec_l01Sum.l0 (k + 1) y0 y1 y2))
  | 0 => fun _ _ _ r h => by simp [spec_l01Sum.l0] at h
  | k + 1 => by
   have ih0 := spec_l01Sum.mono_l k
   intros
   unfold spec_l01Sum.l0
   all_goals repeat' first | (with_reducible first | apply ih0 | exact LeO.refl _ | exact LeO.none _ | refine LeO.ite ?_ ?_ | refine LeO.bind ?_ (fun _ => ?_)) | apply ih0 | exact LeO.none _ | refine LeO.ite ?_ ?_ | refine LeO.bind ?_ (fun _ => ?_)
theorem spec_l01Sum.mono : ∀ a0 k, LeO (spec_l01Sum.f k a0) (spec_l01Sum.f (k + 1) a0) := by
  intro a0 k
  have ih0 := spec_l01Sum.mono_l k
  unfold spec_l01Sum.f
  repeat' first | (with_reducible first | apply ih0 | exact LeO.refl _ | exact LeO.none _ | refine LeO.ite ?_ ?_ | refine LeO.bind ?_ (fun _ => ?_)) | apply ih0 | exact LeO.none _ | refine LeO.ite ?_ ?_ | refine LeO.bind ?_ (fun _ => ?_)
set_option maxHeartbeats 8000000 in
set_option maxRecDepth 100000 in
theorem spec_l01Sum.calls (k : Nat) (A0 : Option Addr) (c0 : Nat) (l0 : List Int) (r : Int) (w : World) (hr0 : Kd.C (Kd.int .i64) w A0 l0.length l0) (hc0 : l0.length ≤ c0) (h : spec_l01Sum.f k l0 = some r) :
    Calls Try.prog 43 #[.slice A0 l0.length c0] w fun e w' => e = .returned (.int .i64 r) ∧ Drawn0 w w' := by
 have HR0 := mA hr0; have HC0 := mA hc0; clear hr0 hc0; have H : (spec_l01Sum.l0 k l0 0 0) = some r := h; clear h; have H' := mA H; clear H; go_enter Try.func43, Try.ntmps43; go_wp2; go_loopg [3, 4] k (fun kq v3 v4 w' => ∃ (x3_1 : Int) (x4_1 : Int), v3 = .int .i64 x3_1 ∧ v4 = .int .i64 x4_1 ∧ Aside0 (spec_l01Sum.l0 kq l0 x3_1 x4_1 = some r) ∧ Aside0 (kq ≤ k) ∧ Drawn0 w w')
 case atStart => exact ⟨(0), (0), zq4, zq4, H', ⟨Nat.le_refl _⟩, zq10⟩
 case round =>
  clear H'; obtain ⟨x3_1, x4_1, rfl, rfl, HA, HK1, ⟨m1, rfl⟩⟩ := hrel
  cases gk with
  | zero => exact absurd HA.out (by simp [spec_l01Sum.l0])
  | succ k1 =>
   have H := HA.out; clear HA; simp only [spec_l01Sum.l0] at H; refine sqC (x4_1 < (l0.length : Int)) (fun c2 => ?_) (fun c2 => ?_)
   ·rw [if_neg c2] at H; have c2b0 : decide (x4_1 < (l0.length : Int)) = false := decide_eq_false c2; clear c2; obtain rfl := Option.some.inj H; go_wp2; go_ret; exact ⟨zq4, zq10⟩
   rw [if_pos c2] at H; have c2b0 : decide (x4_1 < (l0.length : Int)) = true := decide_eq_true c2; clear c2; obtain ⟨c3, H⟩ := sqI H; have c3b0 : decide (0 ≤ x4_1) = true := decide_eq_true c3; clear c3; have H' := mA H; clear H; have p187 : 0 ≤ (x4_1 : Int) := sqd; have q187 : x4_1 < (l0.length : Int) := sqd; obtain ⟨ad187, e187, hx187_0⟩ := Kd.at_int HR0.out x4_1 p187 q187
   cases e187
   replace p187 := eq_true p187; replace q187 := eq_true q187; go_wp2; go_roundg k1
   case measure => have := HK1.out; omega
   case rel => exact ⟨(wrap64 (x3_1 + (rd l0 x4_1))), (wrap64 (x4_1 + 1)), zq4, zq4, H', ⟨zq25 HK1⟩, zq10⟩

/-! ### spec_l05Across: function 40 -/
def spec_l05Across.l0 : Nat → List (List Int) → List Int → Int → Option (List Int)
  | 0, _, _, _ => none
  | k + 1, x0, x3, x4 => if x4 < (x0.length : Int) then (if 0 ≤ x4 then ((spec_l01Sum.f k (rd_L1 x0 x4)).bind fun t192 => (if x3.length < 17592186044416 then (spec_l05Across.l0 k x0 (x3 ++ [t192]) (wrap64 (x4 + 1))) else (none))) else (none)) else (some x3)
def spec_l05Across.f (k : Nat) (l0 : List (List Int)) : Option (List Int) := spec_l05Across.l0 k l0 (([] : List Int)) 0
theorem spec_l05Across.mono_l : ∀ k, (∀ y0 y1 y2, LeO (spec_l05Across.l0 k y0 y1 y2) (spec_l05Across.l0 (k + 1) y0 y1 y2))
  | 0 => fun _ _ _ r h => by simp [spec_l05Across.l0] at h
  | k + 1 => by
   have ih0 := spec_l05Across.mono_l k
   intros
   unfold spec_l05Across.l0
   all_goals repeat' first | (with_reducible first | apply ih0 | apply spec_l01Sum.mono | exact LeO.refl _ | exact LeO.none _ | refine LeO.ite ?_ ?_ | refine LeO.bind ?_ (fun _ => ?_)) | apply ih0 | apply spec_l01Sum.mono | exact LeO.none _ | refine LeO.ite ?_ ?_ | refine LeO.bind ?_ (fun _ => ?_)
theorem spec_l05Across.mono : ∀ a0 k, LeO (spec_l05Across.f k a0) (spec_l05Across.f (k + 1) a0) := by
  intro a0 k
  have ih0 := spec_l05Across.mono_l k
  unfold spec_l05Across.f
  repeat' first | (with_reducible first | apply ih0 | apply spec_l01Sum.mono | exact LeO.refl _ | exact LeO.none _ | refine LeO.ite ?_ ?_ | refine LeO.bind ?_ (fun _ => ?_)) | apply ih0 | apply spec_l01Sum.mono | exact LeO.none _ | refine LeO.ite ?_ ?_ | refine LeO.bind ?_ (fun _ => ?_)
set_option maxHeartbeats 8000000 in
set_option maxRecDepth 100000 in
theorem spec_l05Across.calls (k : Nat) (A0 : Option Addr) (c0 : Nat) (l0 : List (List Int)) (r : List Int) (w : World) (hr0 : Kd.C (Kd.slice 2 (Kd.int .i64)) w A0 l0.length l0) (hc0 : l0.length ≤ c0) (h : spec_l05Across.f k l0 = some r) :
    Calls Try.prog 40 #[.slice A0 l0.length c0] w fun e w' => ∃ v0_ : Value, e = .returned (v0_) ∧ Kd.R (Kd.int .i64) 2 w' w.heap.size (fun _ => True) v0_ r ∧ Below w.heap.size w w' := by
 have HR0 := mA hr0; have HC0 := mA hc0; clear hr0 hc0; have HB := mA (Below.refl w.heap.size w); have H : (spec_l05Across.l0 k l0 (([] : List Int)) 0) = some r := h; clear h; obtain ⟨y188, hy188⟩ : ∃ y_ : List Int, y_ = (([] : List Int)) := ⟨_, rfl⟩
 replace H : (spec_l05Across.l0 k l0 y188 0) = some r := sqHY hy188 H
 have Ny188 := mA hy188; clear hy188; have H' := mA H; clear H; go_enter Try.func40, Try.ntmps40; go_wp2_with (first | ((with_reducible refine gate_dst (N := 5) rfl ?_); refine Kd.R_lit (Kd.int .i64) _ 2 ?hg (N := 5) ?hd (xs := ([] : List Int)) (inner := []) (ok := fun _ => True) (okp := fun _ => True) ?hr ?hp (fun _ hk => hk) trivial (Below.refl _ _) (Nat.le_refl _) (by simp) ?_; (case hd => rfl); (case hg => rfl); (case hr => exact zq12); (case hp => exact (Reps.none _ _)); intro v189 w2 ho3 hb hg_ hnew_; clear hg_ hnew_; (first | rw [← Ny188.out] at ho3 | (simp only [Int.reduceToNat] at ho3; rw [← Ny188.out] at ho3)); have HO190 := mA (Kd.R_lower ho3 (below_size zq3)); replace HB := mA (below_step zq3 hb); clear hb ho3)); go_loopg [3, 4] k (fun kq v3 v4 w' => ∃ (x3_1 : List Int) (x4_1 : Int), v4 = .int .i64 x4_1 ∧ Aside0 (spec_l05Across.l0 kq l0 x3_1 x4_1 = some r) ∧ Aside0 (kq ≤ k) ∧ Aside0 (Kd.R (Kd.int .i64) 2 w' w.heap.size (fun _ => True) v3 x3_1) ∧ Aside0 (Below w.heap.size w w'))
 case atStart => exact ⟨(y188), (0), zq4, H', ⟨Nat.le_refl _⟩, ⟨zq2 HO190⟩, ⟨zq3⟩⟩
 case round =>
  clear H'; obtain ⟨x3_1, x4_1, rfl, HA, HK1, HO_3, HB⟩ := hrel
  cases gk with
  | zero => exact absurd HA.out (by simp [spec_l05Across.l0])
  | succ k1 =>
   have H := HA.out; clear HA; simp only [spec_l05Across.l0] at H; refine sqC (x4_1 < (l0.length : Int)) (fun c4 => ?_) (fun c4 => ?_)
   ·rw [if_neg c4] at H; have c4b0 : decide (x4_1 < (l0.length : Int)) = false := decide_eq_false c4; clear c4; obtain rfl := Option.some.inj H; go_wp2; go_ret; exact ⟨_, zq6, zq2 HO_3, zq3⟩
   rw [if_pos c4] at H; have c4b0 : decide (x4_1 < (l0.length : Int)) = true := decide_eq_true c4; clear c4; obtain ⟨c5, H⟩ := sqI H; replace c5 := decide_eq_true c5; obtain ⟨t192, A6, H⟩ := sqB H; obtain ⟨c7, H⟩ := sqI H; have LMc7 := mA c7; clear c7; obtain ⟨y193, hy193⟩ : ∃ y_ : List Int, y_ = (x3_1 ++ [t192]) := ⟨_, rfl⟩
   replace H : (spec_l05Across.l0 k1 l0 y193 (wrap64 (x4_1 + 1))) = some r := sqHY hy193 H
   have Ny193 := mA hy193; clear hy193; have H' := mA H; clear H; have p191 : 0 ≤ (x4_1 : Int) := sqd; have q191 : x4_1 < (l0.length : Int) := sqd; obtain ⟨ad191, A191_0, c191_0, e191, hx191_0, hl191_0, hi191_0⟩ := at_L1 HR0.out x4_1 p191 q191
   cases e191
   replace hx191_0 := sqh HB hx191_0; have HR191_0 := mA hi191_0; have HC191_0 := mA hl191_0; clear hi191_0 hl191_0; replace p191 := eq_true p191; replace q191 := eq_true q191; go_wp2_with (first | (refine sqG 43 (some 17) Try.func43 #[.slice A191_0 (rd_L1 l0 x4_1).length c191_0] (h := ?_); (with_reducible refine (spec_l01Sum.calls k1 _ _ (rd_L1 l0 x4_1) t192 _ ?s1 ?s2 A6.out).mono ?_); (case s1 => exact zq7 HR191_0); (case s2 => exact HC191_0.out); rintro e w' ⟨rfl, ⟨nd, rfl⟩⟩; refine ⟨_, rfl, ?_⟩) | ((with_reducible refine gate_builtin (b := .append) (xs := #[.tmp 12, .tmp 18]) rfl ?_); at_builtin; refine Kd.R_append (Kd.int .i64) (w0 := w) w.heap.size rfl (.tmp 12) (.tmp 18) 46 2 (.int .i64 0) 8 rfl Try.underlying46 info2 rfl (by decide) (by omega) u3 x3_1 t192 [.int .i64 t192] (fun _ => True) (fun _ => False) rfl rfl ?aP (fun _ hk => hk.elim) ?aF ?aO ?aB ?aS ?aL ?_; (case aP => exact rfl); (case aB => exact zq23); (case aF => exact zq31); (case aO => exact zq35 HO_3); (case aS => exact zq27); (case aL => exact zq25 LMc7); intro v194 w8 ho hb hg hat; rw [← Ny193.out] at ho; replace HB := mA (hb); have HO195 := mA (ho); clear HO_3 ho hb hg hat)); go_roundg k1
   case measure => have := HK1.out; omega
   case rel => exact ⟨(y193), (wrap64 (x4_1 + 1)), zq4, H', ⟨zq25 HK1⟩, ⟨zq2 HO195⟩, ⟨zq3⟩⟩

/-! ### spec_l05Down: function 42 -/
mutual
def spec_l05Down.l0 : Nat → List (List Int) → List Int → Int → Option (List Int)
  | 0, _, _, _ => none
  | k + 1, x0, x3, x4 => if x4 < (x0.length : Int) then (spec_l05Down.l1 k x0 x3 x4 0) else (some x3)
def spec_l05Down.l1 : Nat → List (List Int) → List Int → Int → Int → Option (List Int)
  | 0, _, _, _, _ => none
  | k + 1, x0, x3, x4, x5 => if 0 ≤ x4 then (if x4 < (x0.length : Int) then (if x5 < ((rd_L1 x0 x4).length : Int) then (if 0 ≤ x5 then (if x5 < (x3.length : Int) then (spec_l05Down.l1 k x0 (x3.set (x5 : Int).toNat (wrap64 ((rd x3 x5) + (rd (rd_L1 x0 x4) x5)))) x4 (wrap64 (x5 + 1))) else (none)) else (none)) else (spec_l05Down.l0 k x0 x3 (wrap64 (x4 + 1)))) else (none)) else (none)
end
def spec_l05Down.f (k : Nat) (l0 : List (List Int)) : Option (List Int) := if 0 < (l0.length : Int) then (if 0 ≤ ((rd_L1 l0 0).length : Int) then (if (((rd_L1 l0 0).length : Int) : Int).toNat ≤ 35184372088832 then (spec_l05Down.l0 k l0 (List.replicate (((rd_L1 l0 0).length : Int) : Int).toNat 0) 0) else (none)) else (none)) else (none)
theorem spec_l05Down.mono_l : ∀ k, (∀ y0 y1 y2, LeO (spec_l05Down.l0 k y0 y1 y2) (spec_l05Down.l0 (k + 1) y0 y1 y2)) ∧ (∀ y0 y1 y2 y3, LeO (spec_l05Down.l1 k y0 y1 y2 y3) (spec_l05Down.l1 (k + 1) y0 y1 y2 y3))
  | 0 => ⟨fun _ _ _ r h => by simp [spec_l05Down.l0] at h, fun _ _ _ _ r h => by simp [spec_l05Down.l1] at h⟩
  | k + 1 => by
   obtain ⟨ih0, ih1⟩ := spec_l05Down.mono_l k
   refine ⟨?_, ?_⟩ <;> intros
   all_goals first | unfold spec_l05Down.l0 | unfold spec_l05Down.l1
   all_goals repeat' first | (with_reducible first | apply ih0 | apply ih1 | exact LeO.refl _ | exact LeO.none _ | refine LeO.ite ?_ ?_ | refine LeO.bind ?_ (fun _ => ?_)) | apply ih0 | apply ih1 | exact LeO.none _ | refine LeO.ite ?_ ?_ | refine LeO.bind ?_ (fun _ => ?_)
theorem spec_l05Down.mono : ∀ a0 k, LeO (spec_l05Down.f k a0) (spec_l05Down.f (k + 1) a0) := by
  intro a0 k
  obtain ⟨ih0, ih1⟩ := spec_l05Down.mono_l k
  unfold spec_l05Down.f
  repeat' first | (with_reducible first | apply ih0 | apply ih1 | exact LeO.refl _ | exact LeO.none _ | refine LeO.ite ?_ ?_ | refine LeO.bind ?_ (fun _ => ?_)) | apply ih0 | apply ih1 | exact LeO.none _ | refine LeO.ite ?_ ?_ | refine LeO.bind ?_ (fun _ => ?_)
def spec_l05Down.T8 : Bool × List (List Nat × List Nat) := (true, [([], []), ([], []), ([0, 1], [0, 1]), ([2], [2]), ([], []), ([], []), ([4, 5], [4, 5]), ([6], [6]), ([], []), ([7, 8], [7, 8]), ([9], [9]), ([3, 10], [3, 10]), ([0, 1, 0, 1, 2, 3, 4, 5, 6, 7, 8, 9, 10, 11], [0, 1]), ([12, 11, 0, 1, 2, 3, 4, 5, 6, 7, 8, 9, 10, 11], [11, 12])])
def spec_l05Down.B8 : List Nat := [0, 0, 3, 7, 0, 0, 48, 112, 0, 496, 1008, 2047, 4095, 8191]
theorem spec_l05Down.tab8 : rtab .any (opsOf Try.f42 8) = spec_l05Down.T8 := by kernel_rfl
theorem spec_l05Down.bits8 : waitsOk spec_l05Down.T8.2 spec_l05Down.B8 = true := by kernel_rfl
set_option maxHeartbeats 8000000 in
set_option maxRecDepth 100000 in
theorem spec_l05Down.calls (k : Nat) (A0 : Option Addr) (c0 : Nat) (l0 : List (List Int)) (r : List Int) (w : World) (hr0 : Kd.C (Kd.slice 2 (Kd.int .i64)) w A0 l0.length l0) (hc0 : l0.length ≤ c0) (h : spec_l05Down.f k l0 = some r) :
    Calls Try.prog 42 #[.slice A0 l0.length c0] w fun e w' => ∃ v0_ : Value, e = .returned (v0_) ∧ Kd.R (Kd.int .i64) 2 w' w.heap.size (fun _ => True) v0_ r ∧ Below w.heap.size w w' := by
 have HR0 := mA hr0; have HC0 := mA hc0; clear hr0 hc0; have HB := mA (Below.refl w.heap.size w); have H : (if 0 < (l0.length : Int) then (if 0 ≤ ((rd_L1 l0 0).length : Int) then (if (((rd_L1 l0 0).length : Int) : Int).toNat ≤ 35184372088832 then (spec_l05Down.l0 k l0 (List.replicate (((rd_L1 l0 0).length : Int) : Int).toNat 0) 0) else (none)) else (none)) else (none)) = some r := h; clear h; obtain ⟨c2, H⟩ := sqI H; have c2b0 : decide (0 < (l0.length : Int)) = true := decide_eq_true c2; have c2b1 : decide (0 < l0.length) = true := decide_eq_true (by omega); clear c2; obtain ⟨c3, H⟩ := sqI H; have c3b0 := eq_true c3; have c3b1 : decide (0 ≤ ((rd_L1 l0 0).length : Int)) = true := decide_eq_true c3; clear c3; obtain ⟨c4, H⟩ := sqI H; have c4b0 := eq_true c4; have c4b1 : decide ((((rd_L1 l0 0).length : Int) : Int).toNat ≤ 35184372088832) = true := decide_eq_true c4; clear c4; obtain ⟨y197, hy197⟩ : ∃ y_ : List Int, y_ = (List.replicate (((rd_L1 l0 0).length : Int) : Int).toNat 0) := ⟨_, rfl⟩
 replace H : (spec_l05Down.l0 k l0 y197 0) = some r := sqHY hy197 H
 have Ny197 := mA hy197; clear hy197; have H' := mA H; clear H; have p196 : 0 ≤ (0 : Int) := (by omega); have q196 : 0 < (l0.length : Int) := sqd; obtain ⟨ad196, A196_0, c196_0, e196, hx196_0, hl196_0, hi196_0⟩ := at_L1 HR0.out 0 p196 q196
 cases e196
 have qi196 : (0 < l0.length) = True := eq_true (by omega); (try rw [show ((0 : Int)).toNat = 0 from rfl] at hx196_0); (try rw [Addr.add_zero'] at hx196_0); have HR196_0 := mA hi196_0; have HC196_0 := mA hl196_0; clear hi196_0 hl196_0; replace p196 := eq_true p196; replace q196 := eq_true q196; go_enter Try.func42, Try.ntmps42; go_wp2_with (first | ((with_reducible refine gate_dst (N := 10) rfl ?_); refine Kd.R_make (Kd.int .i64) _ 2 rfl (N := 10) rfl 46 _ _ rfl ((rd_L1 l0 0).length : Int) rfl rfl Try.underlying46 (.int .i64 0) 8 info2 rfl (by decide) (by omega) 0 (ok := fun _ => True) (okp := fun _ => True) rfl (fun _ hk => hk) trivial (sqd) (Nat.le_trans (Nat.mul_le_mul_right _ (sqd : ((rd_L1 l0 0).length : Int).toNat ≤ 35184372088832)) (by omega)) (Below.refl _ _) (Nat.le_refl _) ?_; intro v198 w5 ho6 hb hg_ hnew_; clear hg_ hnew_; (first | rw [← Ny197.out] at ho6 | (simp only [Int.reduceToNat] at ho6; rw [← Ny197.out] at ho6)); have HO199 := mA (Kd.R_lower ho6 (below_size zq3)); replace HB := mA (below_step zq3 hb); clear hb ho6)); go_loopg [4] k (fun kq v4 w' => ∃ (x3_1 : List Int) (x4_1 : Int), v4 = .int .i64 x4_1 ∧ Aside0 (spec_l05Down.l0 kq l0 x3_1 x4_1 = some r) ∧ Aside0 (kq ≤ k) ∧ Aside0 (Kd.R (Kd.int .i64) 2 w' w.heap.size (fun _ => True) v198 x3_1) ∧ Aside0 (Below w.heap.size w w'))
 case atStart => exact ⟨(y197), (0), zq4, H', ⟨Nat.le_refl _⟩, ⟨zq2 HO199⟩, ⟨zq3⟩⟩
 case round =>
  clear H'; (try clear c2); (try clear c2b0); (try clear c2b1); (try clear c3); (try clear c3b0); (try clear c3b1); (try clear c4); (try clear c4b0); (try clear c4b1); (try clear hx196_0); (try clear p196); (try clear q196); obtain ⟨x3_1, x4_1, rfl, HA, HK1, HO_3, HB⟩ := hrel
  cases gk with
  | zero => exact absurd HA.out (by simp [spec_l05Down.l0])
  | succ k1 =>
   have H := HA.out; clear HA; simp only [spec_l05Down.l0] at H; refine sqC (x4_1 < (l0.length : Int)) (fun c7 => ?_) (fun c7 => ?_)
   ·rw [if_neg c7] at H; replace c7 := decide_eq_false c7; obtain rfl := Option.some.inj H; go_wp2; go_ret; exact ⟨_, zq6, zq2 HO_3, zq3⟩
   rw [if_pos c7] at H; replace c7 := decide_eq_true c7; have H' := mA H; clear H; go_wp2; go_loopg [5] k1 (fun kq v5 w' => ∃ (x3_2 : List Int) (x5_2 : Int), v5 = .int .i64 x5_2 ∧ Aside0 (spec_l05Down.l1 kq l0 x3_2 x4_1 x5_2 = some r) ∧ Aside0 (kq ≤ k1) ∧ Aside0 (Kd.R (Kd.int .i64) 2 w' w.heap.size (fun _ => True) v198 x3_2) ∧ Aside0 (Below w.heap.size w w'))
   case atStart => exact ⟨(x3_1), (0), zq4, H', ⟨Nat.le_refl _⟩, ⟨zq2 HO_3⟩, ⟨zq3⟩⟩
   case round =>
    clear H'; (try clear c2); (try clear c2b0); (try clear c2b1); (try clear c3); (try clear c3b0); (try clear c3b1); (try clear c4); (try clear c4b0); (try clear c4b1); (try clear c7); (try clear c7b0); (try clear hx196_0); (try clear p196); (try clear q196); obtain ⟨x3_2, x5_2, rfl, HA, HK2, HO_3, HB⟩ := hrel
    cases gk with
    | zero => exact absurd HA.out (by simp [spec_l05Down.l1])
    | succ k2 =>
     have H := HA.out; clear HA; simp only [spec_l05Down.l1] at H; obtain ⟨c8, H⟩ := sqI H; replace c8 := decide_eq_true c8; obtain ⟨c9, H⟩ := sqI H; have c9b0 : decide (x4_1 < (l0.length : Int)) = true := decide_eq_true c9; clear c9; refine sqC (x5_2 < ((rd_L1 l0 x4_1).length : Int)) (fun c10 => ?_) (fun c10 => ?_)
     ·rw [if_neg c10] at H; replace c10 := decide_eq_false c10; have H' := mA H; clear H; have p200 : 0 ≤ (x4_1 : Int) := sqd; have q200 : x4_1 < (l0.length : Int) := sqd; obtain ⟨ad200, A200_0, c200_0, e200, hx200_0, hl200_0, hi200_0⟩ := at_L1 HR0.out x4_1 p200 q200; obtain rfl : ad196 = ad200 := (by injection e200); replace hx200_0 := sqh HB hx200_0; have HR200_0 := mA hi200_0; have HC200_0 := mA hl200_0; clear hi200_0 hl200_0; replace p200 := eq_true p200; replace q200 := eq_true q200; go_wp2; go_roundg k2
      case measure => have := HK1.out; have := HK2.out; omega
      case rel => exact ⟨(x3_2), (wrap64 (x4_1 + 1)), zq4, H', ⟨zq16 HK1 HK2⟩, ⟨zq2 HO_3⟩, ⟨zq3⟩⟩
     rw [if_pos c10] at H; replace c10 := decide_eq_true c10; obtain ⟨c11, H⟩ := sqI H; replace c11 := decide_eq_true c11; obtain ⟨c12, H⟩ := sqI H; replace c12 := decide_eq_true c12; obtain ⟨y204, hy204⟩ : ∃ y_ : List Int, y_ = (x3_2.set (x5_2 : Int).toNat (wrap64 ((rd x3_2 x5_2) + (rd (rd_L1 l0 x4_1) x5_2)))) := ⟨_, rfl⟩
     replace H : (spec_l05Down.l1 k2 l0 y204 x4_1 (wrap64 (x5_2 + 1))) = some r := sqHY hy204 H
     have Ny204 := mA hy204; clear hy204; have H' := mA H; clear H; have p200 : 0 ≤ (x4_1 : Int) := sqd; have q200 : x4_1 < (l0.length : Int) := sqd; obtain ⟨ad200, A200_0, c200_0, e200, hx200_0, hl200_0, hi200_0⟩ := at_L1 HR0.out x4_1 p200 q200; obtain rfl : ad196 = ad200 := (by injection e200); replace hx200_0 := sqh HB hx200_0; have HR200_0 := mA hi200_0; have HC200_0 := mA hl200_0; clear hi200_0 hl200_0; replace p200 := eq_true p200; replace q200 := eq_true q200; (try go_wp2); replace HO_3 := mA (Kd.R_drew HO_3.out); replace HB := mA (below_drew1 HB.out); obtain ⟨Ao15, co15, eo15⟩ := Kd.R_slice HO_3.out; (first | subst eo15 | (injection eo15 with f1_ f2_ f3_; have f4_ := f1_.symm; have f5_ := f3_.symm; clear f1_ f2_ f3_; subst f4_; subst f5_)); have p201 : 0 ≤ (x5_2 : Int) := sqd; have q201 : x5_2 < (x3_2.length : Int) := sqd; obtain ⟨ad201, e201, hx201_0⟩ := Kd.at_int (Kd.R_reads' HO_3.out).2.2 x5_2 p201 q201
     cases e201
     replace p201 := eq_true p201; replace q201 := eq_true q201; have p202 : 0 ≤ (x4_1 : Int) := sqd; have q202 : x4_1 < (l0.length : Int) := sqd; obtain ⟨ad202, A202_0, c202_0, e202, hx202_0, hl202_0, hi202_0⟩ := at_L1 HR0.out x4_1 p202 q202; have hw202_0 := hx202_0; obtain rfl : ad196 = ad202 := (by injection e202); replace hx202_0 := sqh HB hx202_0; have HR202_0 := mA hi202_0; have HC202_0 := mA hl202_0; clear hi202_0 hl202_0; replace p202 := eq_true p202; replace q202 := eq_true q202; have p203 : 0 ≤ (x5_2 : Int) := sqd; have q203 : x5_2 < ((rd_L1 l0 x4_1).length : Int) := sqd; obtain ⟨ad203, e203, hx203_0⟩ := Kd.at_int HR202_0.out x5_2 p203 q203; have hw203_0 := hx203_0
     cases e203
     replace hx203_0 := sqh HB hx203_0; replace p203 := eq_true p203; replace q203 := eq_true q203; have p13 : 0 ≤ (x5_2 : Int) := sqd; have q13 : (x5_2 : Int) < ((x3_2.length : Int) : Int) := sqd; obtain ⟨go13, co13, eo13, gb13, gl13, cl13, HG13⟩ := Kd.R_form HO_3.out (by omega); (first | cases eo13 | (injection eo13 with ea_ en_ ec_; (first | subst ea_ | (injection ea_ with ea_; subst ea_)); subst ec_; clear en_)); have GB13 := mA gb13; have GG13 := mA HG13; clear gb13 gl13 HG13; (first | simp only [add_plain] at hx201_0 | skip); obtain ⟨hx13_0, hf13_0⟩ := Kd.R_celln 0 HO_3.out (x5_2 : Int) p13 q13; replace p13 := eq_true p13; replace q13 := eq_true q13; have HP16 := Kd.R_putn HO_3.out (x5_2 : Int) (wrap64 ((rd x3_2 x5_2) + (rd (rd_L1 l0 x4_1) x5_2))); rw [← Ny204.out] at HP16; have HQ16 := mA HP16; clear HP16; refine start_ (n := 14) (S := fun w' => w'.cell? ⟨go13, (x5_2).toNat, none⟩ = some (.int .i64 (rd x3_2 x5_2)) ∧ w'.cell? (ad196.add (x4_1).toNat) = some (.slice (some ad203) (rd_L1 l0 x4_1).length c202_0) ∧ w'.cell? (ad203.add (x5_2).toNat) = some (.int .i64 (rd (rd_L1 l0 x4_1) x5_2))) (ds := [13]) #[false, false, false, false, false, false, false, false, false, false, false, false, false, false] (by kernel_rfl) rfl rfl ⟨hx201_0, ((HB.out.cell (World.block_lt_of_cell? w _ hw202_0)).trans hw202_0), ((HB.out.cell (World.block_lt_of_cell? w _ hw203_0)).trans hw203_0)⟩ (fun hHeld => ?_); refine with_tabW spec_l05Down.tab8 spec_l05Down.bits8 (fun HT_ HW_ => ?_); generalize wr.drew = w14 at HO_3 HB GG13 HQ16 HR202_0 hf13_0 hx13_0 hx201_0 hx202_0 hx203_0 hHeld ⊢; refine sqr0 0 (some 26) ?_; refine sqr0 1 (some 27) ?_; refine sqr0 2 (some 28) ?_; refine sqr0 4 (some 30) ?_; refine sqr0 5 (some 31) ?_; refine sqr0 6 (some 32) ?_; refine sqr0 8 (some 34) ?_; refine sqr6 3 (some 29) ?_; refine sqr6 7 (some 33) ?_; refine sqr0 9 (some 35) ?_; refine sqr6 10 (some 36) ?_; refine sqr0 11 (some 37) ?_; refine sqr0 12 (some 38) ?_; refine last_ (i := 13) (N := none) #[true, true, true, true, true, true, true, true, true, true, true, true, true, true] rfl rfl (one_of HT_.out (by kernel_rfl)) (by decide) (fun K hK => ?_); refine skip_ (w1 := ?_) (by rfl) rfl ?_ ?_; rotate_left
     ·go_simp; rfl
     refine hK.out _ _ ?_; clear hK K; refine done_ (done_of HT_.out (by kernel_rfl)) ?_; (try go_wp2); go_roundg k2
     case measure => have := HK1.out; have := HK2.out; omega
     case rel => exact ⟨(y204), (wrap64 (x5_2 + 1)), zq4, H', ⟨zq16 HK1 HK2⟩, ⟨zq2 HQ16⟩, ⟨by repeat (first | (with_reducible first | exact HB.out | apply below_alloc | apply pw_below_drewN | apply below_drew1 | refine below_set ?_ GB13.out) | exact HB.out)⟩⟩

end Go.Proofs.Ytdcglkdgepdnpaa.PFnExactNearestTable
