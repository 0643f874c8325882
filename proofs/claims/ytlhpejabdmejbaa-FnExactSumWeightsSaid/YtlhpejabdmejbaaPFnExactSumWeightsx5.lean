/- Written by this session's program (wip/tool/xprint.py) over the kit's printer. -/
import Derived.Test.YtlhpejabdmejbaaPFnExactSumWeightsx0
namespace Go.Proofs.Ytlhpejabdmejbaa.PFnExactSumWeights
open Go.RowKit Go.Proofs.YtlhpejabdmejbaaW.PrintWords Go.Proofs.YtlhpejabdmejbaaW.PrintLast Go.Proofs.YtlhpejabdmejbaaW.PrintMore
attribute [local go_sem] max2_int min2_int max_two min_two max_three min_three max_four min_four   -- for this text's walks alone
set_option linter.unusedVariables false
set_option linter.unusedSimpArgs false

/-! ### spec_l01Sum: function 77 -/
def spec_l01Sum.l0 : Nat → List Int → Int → Int → Option (Int)
  | 0, _, _, _ => none
  | k + 1, x0, x3, x4 => if x4 < (x0.length : Int) then (if 0 ≤ x4 then (spec_l01Sum.l0 k x0 (wrap64 (x3 + (rd x0 x4))) (wrap64 (x4 + 1))) else (none)) else (some x3)
def spec_l01Sum.f (k : Nat) (l0 : List Int) : Option (Int) := spec_l01Sum.l0 k l0 0 0
theorem spec_l01Sum.mono_l : ∀ k, (∀ y0 y1 y2, LeO (spec_l01Sum.l0 k y0 y1 y2) (spec_l01Sum.l0 (k + 1) y0 y1 y2))
  | 0 => fun _ _ _ r h => by simp [spec_l01Sum.l0] at h
  | k + 1 => by
   have ih0 := spec_l01Sum.mono_l k
   intros
   unfold spec_l01Sum.l0
   all_goals repeat' first | (with_reducible first | apply ih0 | exact LeO.refl _ | exact LeO.none _ | refine LeO.ite ?_ ?_ | refine LeO.bind ?_ (fun _ => ?_)) | apply ih0 | exact LeO.none _ | refine LeO.ite ?_ ?_ | refine LeO.bind ?_ (fun _ => ?_)
theorem spec_l01Sum.mono : ∀ a0 k, LeO (spec_l01Sum.f k a0) (spec_l01Sum.f (k + 1) a0) := by
  intro a0 k
  have ih0 := spec_l01Sum.mono_l k
  unfold spec_l01Sum.f
  repeat' first | (with_reducible first | apply ih0 | exact LeO.refl _ | exact LeO.none _ | refine LeO.ite ?_ ?_ | refine LeO.bind ?_ (fun _ => ?_)) | apply ih0 | exact LeO.none _ | refine LeO.ite ?_ ?_ | refine LeO.bind ?_ (fun _ => ?_)
set_option maxHeartbeats 8000000 in
set_option maxRecDepth 100000 in
theorem spec_l01Sum.calls (k : Nat) (A0 : Option Addr) (c0 : Nat) (l0 : List Int) (r : Int) (w : World) (hr0 : Kd.C (Kd.int .i64) w A0 l0.length l0) (hc0 : l0.length ≤ c0) (h : spec_l01Sum.f k l0 = some r) :
    Calls Try.prog 77 #[.slice A0 l0.length c0] w fun e w' => e = .returned (.int .i64 r) ∧ Drawn0 w w' := by
 have HR0 := mA hr0; have HC0 := mA hc0; clear hr0 hc0; have H : (spec_l01Sum.l0 k l0 0 0) = some r := h; clear h; have H' := mA H; clear H; go_enter Try.func77, Try.ntmps77; go_wp2; go_loopg [3, 4] k (fun kq v3 v4 w' => ∃ (x3_1 : Int) (x4_1 : Int), v3 = .int .i64 x3_1 ∧ v4 = .int .i64 x4_1 ∧ Aside0 (spec_l01Sum.l0 kq l0 x3_1 x4_1 = some r) ∧ Aside0 (kq ≤ k) ∧ Drawn0 w w')
 case atStart => exact ⟨(0), (0), zq3, zq3, H', ⟨Nat.le_refl _⟩, zq6⟩
 case round =>
  clear H'; obtain ⟨x3_1, x4_1, rfl, rfl, HA, HK1, ⟨m1, rfl⟩⟩ := hrel
  cases gk with
  | zero => exact absurd HA.out (by simp [spec_l01Sum.l0])
  | succ k1 =>
   have H := HA.out; clear HA; simp only [spec_l01Sum.l0] at H; refine sqC (x4_1 < (l0.length : Int)) (fun c2 => ?_) (fun c2 => ?_)
   ·rw [if_neg c2] at H; replace c2 := decide_eq_false c2; obtain rfl := Option.some.inj H; go_wp2; go_ret; exact ⟨zq3, zq6⟩
   rw [if_pos c2] at H; replace c2 := decide_eq_true c2; obtain ⟨c3, H⟩ := sqI H; replace c3 := decide_eq_true c3; have H' := mA H; clear H; have p155 : 0 ≤ (x4_1 : Int) := sqd; have q155 : x4_1 < (l0.length : Int) := sqd; obtain ⟨ad155, e155, hx155_0⟩ := Kd.at_int HR0.out x4_1 p155 q155
   cases e155
   replace p155 := eq_true p155; replace q155 := eq_true q155; go_wp2; go_roundg k1
   case measure => have := HK1.out; omega
   case rel => exact ⟨(wrap64 (x3_1 + (rd l0 x4_1))), (wrap64 (x4_1 + 1)), zq3, zq3, H', ⟨by have := HK1.out; omega⟩, zq6⟩

/-! ### spec_l00Put: function 96 -/
mutual
def spec_l00Put.l0 : Nat → List Int → Int → List Int → Bool → Int → Option (List Int)
  | 0, _, _, _, _, _ => none
  | k + 1, x0, x1, x5, x6, x7 => if x7 < (x0.length : Int) then (if x6 = true then (spec_l00Put.j1 k x0 x1 x5 x6 x7 false) else (if 0 ≤ x7 then (spec_l00Put.j1 k x0 x1 x5 x6 x7 (decide ((rd x0 x7) ≥ x1))) else (none))) else (if x6 = true then (some x5) else (if x5.length < 17592186044416 then (some (x5 ++ [x1])) else (none)))
def spec_l00Put.j1 : Nat → List Int → Int → List Int → Bool → Int → Bool → Option (List Int)
  | 0, _, _, _, _, _, _ => none
  | k + 1, x0, x1, x5, x6, x7, x24 => if x24 = true then (if 0 ≤ x7 then (if x7 < (x0.length : Int) then (if (rd x0 x7) > x1 then (if x5.length < 17592186044416 then ((some (x5 ++ [x1] : List Int)).bind fun y164 => (if y164.length < 17592186044416 then (spec_l00Put.l0 k x0 x1 (y164 ++ [rd x0 x7]) true (wrap64 (x7 + 1))) else (none))) else (none)) else (if x5.length < 17592186044416 then (spec_l00Put.l0 k x0 x1 (x5 ++ [rd x0 x7]) true (wrap64 (x7 + 1))) else (none))) else (none)) else (none)) else (if 0 ≤ x7 then (if x7 < (x0.length : Int) then (if x5.length < 17592186044416 then (spec_l00Put.l0 k x0 x1 (x5 ++ [rd x0 x7]) x6 (wrap64 (x7 + 1))) else (none)) else (none)) else (none))
end
def spec_l00Put.f (k : Nat) (l0 : List Int) (a1 : Int) : Option (List Int) := spec_l00Put.l0 k l0 a1 (([] : List Int)) false 0
theorem spec_l00Put.mono_l : ∀ k, (∀ y0 y1 y2 y3 y4, LeO (spec_l00Put.l0 k y0 y1 y2 y3 y4) (spec_l00Put.l0 (k + 1) y0 y1 y2 y3 y4)) ∧ (∀ y0 y1 y2 y3 y4 y5, LeO (spec_l00Put.j1 k y0 y1 y2 y3 y4 y5) (spec_l00Put.j1 (k + 1) y0 y1 y2 y3 y4 y5))
  | 0 => ⟨fun _ _ _ _ _ r h => by simp [spec_l00Put.l0] at h, fun _ _ _ _ _ _ r h => by simp [spec_l00Put.j1] at h⟩
  | k + 1 => by
   obtain ⟨ih0, ih1⟩ := spec_l00Put.mono_l k
   refine ⟨?_, ?_⟩ <;> intros
   all_goals first | unfold spec_l00Put.l0 | unfold spec_l00Put.j1
   all_goals repeat' first | (with_reducible first | apply ih0 | apply ih1 | exact LeO.refl _ | exact LeO.none _ | refine LeO.ite ?_ ?_ | refine LeO.bind ?_ (fun _ => ?_)) | apply ih0 | apply ih1 | exact LeO.none _ | refine LeO.ite ?_ ?_ | refine LeO.bind ?_ (fun _ => ?_)
theorem spec_l00Put.mono : ∀ a0 a1 k, LeO (spec_l00Put.f k a0 a1) (spec_l00Put.f (k + 1) a0 a1) := by
  intro a0 a1 k
  obtain ⟨ih0, ih1⟩ := spec_l00Put.mono_l k
  unfold spec_l00Put.f
  repeat' first | (with_reducible first | apply ih0 | apply ih1 | exact LeO.refl _ | exact LeO.none _ | refine LeO.ite ?_ ?_ | refine LeO.bind ?_ (fun _ => ?_)) | apply ih0 | apply ih1 | exact LeO.none _ | refine LeO.ite ?_ ?_ | refine LeO.bind ?_ (fun _ => ?_)
set_option maxHeartbeats 8000000 in
set_option maxRecDepth 100000 in
theorem spec_l00Put.calls (k : Nat) (A0 : Option Addr) (c0 : Nat) (l0 : List Int) (a1 : Int) (r : List Int) (w : World) (hr0 : Kd.C (Kd.int .i64) w A0 l0.length l0) (hc0 : l0.length ≤ c0) (h : spec_l00Put.f k l0 a1 = some r) :
    Calls Try.prog 96 #[.slice A0 l0.length c0, .int .i64 a1] w fun e w' => ∃ v0_ : Value, e = .returned (v0_) ∧ Kd.R (Kd.int .i64) 2 w' w.heap.size (fun _ => True) v0_ r ∧ Below w.heap.size w w' := by
 have HR0 := mA hr0; have HC0 := mA hc0; clear hr0 hc0; have HB := mA (Below.refl w.heap.size w); have H : (spec_l00Put.l0 k l0 a1 (([] : List Int)) false 0) = some r := h; clear h; obtain ⟨y156, hy156⟩ : ∃ y_ : List Int, y_ = (([] : List Int)) := ⟨_, rfl⟩
 replace H : (spec_l00Put.l0 k l0 a1 y156 false 0) = some r := by first | (rw [hy156]; with_reducible exact H) | (have H2_ := (Option.bind_some _ _).symm.trans H; rw [hy156]; with_reducible exact H2_) | (have H2_ := (Option.bind_some _ _).symm.trans H; with_reducible exact H2_) | with_reducible exact H | (rw [hy156]; exact H) | exact H
 have Ny156 := mA hy156; clear hy156; have H' := mA H; clear H; go_enter Try.func96, Try.ntmps96; go_wp2_with (first | ((with_reducible refine gate_dst (N := 8) rfl ?_); refine Kd.R_lit (Kd.int .i64) _ 2 ?hg (N := 8) ?hd (xs := ([] : List Int)) (inner := []) (ok := fun _ => True) (okp := fun _ => True) ?hr ?hp (fun _ hk => hk) trivial (Below.refl _ _) (Nat.le_refl _) (by simp) ?_; (case hd => rfl); (case hg => rfl); (case hr => exact zq14); (case hp => exact (Reps.none _ _)); intro v157 w3 ho4 hb hg_ hnew_; clear hg_ hnew_; (first | rw [← Ny156.out] at ho4 | (simp only [Int.reduceToNat] at ho4; rw [← Ny156.out] at ho4)); have HO158 := mA (Kd.R_lower ho4 (below_size zq4)); replace HB := mA (below_step zq4 hb); clear hb ho4)); go_loopg [5, 6, 7] k (fun kq v5 v6 v7 w' => ∃ (x5_1 : List Int) (x6_1 : Bool) (x7_1 : Int), v6 = .bool x6_1 ∧ v7 = .int .i64 x7_1 ∧ Aside0 (spec_l00Put.l0 kq l0 a1 x5_1 x6_1 x7_1 = some r) ∧ Aside0 (kq ≤ k) ∧ Aside0 (Kd.R (Kd.int .i64) 2 w' w.heap.size (fun _ => True) v5 x5_1) ∧ Aside0 (Below w.heap.size w w'))
 case atStart => exact ⟨(y156), (false), (0), zq3, zq3, H', ⟨Nat.le_refl _⟩, ⟨zq2 HO158⟩, ⟨zq4⟩⟩
 case round =>
  clear H'; (try clear p2); obtain ⟨x5_1, x6_1, x7_1, rfl, rfl, HA, HK1, HO_5, HB⟩ := hrel
  cases gk with
  | zero => exact absurd HA.out (by simp [spec_l00Put.l0])
  | succ k1 =>
   have H := HA.out; clear HA; simp only [spec_l00Put.l0] at H; refine sqC (x7_1 < (l0.length : Int)) (fun c5 => ?_) (fun c5 => ?_)
   ·rw [if_neg c5] at H; replace c5 := decide_eq_false c5; by_cases c23 : x6_1 = true
    ·subst c23; rw [if_pos rfl] at H; obtain rfl := Option.some.inj H; go_wp2; go_ret; exact ⟨_, zq5, zq2 HO_5, zq4⟩
    replace c23 := Bool.eq_false_iff.mpr c23; subst c23; rw [if_neg (show ¬ (false = true) by decide)] at H; obtain ⟨c24, H⟩ := sqI H; have LMc24 := mA c24; clear c24; obtain ⟨y159, hy159⟩ : ∃ y_ : List Int, y_ = (x5_1 ++ [a1]) := ⟨_, rfl⟩
    replace H : (some y159) = some r := by first | (rw [hy159]; with_reducible exact H) | (have H2_ := (Option.bind_some _ _).symm.trans H; rw [hy159]; with_reducible exact H2_) | (have H2_ := (Option.bind_some _ _).symm.trans H; with_reducible exact H2_) | with_reducible exact H | (rw [hy159]; exact H) | exact H
    have Ny159 := mA hy159; clear hy159; obtain rfl := Option.some.inj H; go_wp2_with (first | ((with_reducible refine gate_builtin (b := .append) (xs := #[.tmp 44, .tmp 46]) rfl ?_); at_builtin; refine Kd.R_append (Kd.int .i64) (w0 := w) w.heap.size rfl (.tmp 44) (.tmp 46) 22 2 (.int .i64 0) 8 rfl Try.underlying22 info2 rfl (by decide) (by omega) u5 x5_1 a1 [.int .i64 a1] (fun _ => True) (fun _ => False) rfl rfl ?aP (fun _ hk => hk.elim) ?aF ?aO ?aB ?aS ?aL ?_; (case aP => exact rfl); (case aB => exact zq4); (case aF => exact (fun _ _ => trivial)); (case aO => exact (zq2 HO_5)); (case aS => exact (below_size zq4)); (case aL => have := LMc24.out; omega); intro v160 w25 ho hb hg hat; rw [← Ny159.out] at ho; replace HB := mA (hb); have HO161 := mA (ho); clear HO_5 ho hb hg hat)); go_ret; exact ⟨_, zq5, zq2 HO161, zq4⟩
   rw [if_pos c5] at H; replace c5 := decide_eq_true c5; have HC6 := mA H; clear H
   go_upto_region 6 with (fail)
   go_cut [24] (fun v24 wc => ∃ (kq : Nat) (x24_5 : Bool), v24 = .bool x24_5 ∧ Aside0 (spec_l00Put.j1 kq l0 a1 x5_1 x6_1 x7_1 x24_5 = some r) ∧ Aside0 (kq ≤ k1) ∧ Aside0 (Kd.R (Kd.int .i64) 2 wc w.heap.size (fun _ => True) u5 x5_1) ∧ Aside0 (Below w.heap.size w wc))
   case first =>
    have H := HC6.out; clear HC6; by_cases c7 : x6_1 = true
    ·subst c7; rw [if_pos rfl] at H; have H' := mA H; clear H; go_wp2; go_meet
     case rel => exact ⟨_, (false), zq3, H', ⟨zq17 HK1⟩, ⟨zq2 HO_5⟩, ⟨zq4⟩⟩
    replace c7 := Bool.eq_false_iff.mpr c7; subst c7; rw [if_neg (show ¬ (false = true) by decide)] at H; obtain ⟨c8, H⟩ := sqI H; have c8b0 := decide_eq_true c8; clear c8; (first | rw [c8b0] | (simp only [i64_w, i32_w]; rw [c8b0]) | skip); have H' := mA H; clear H; have p162 : 0 ≤ (x7_1 : Int) := sqd; have q162 : x7_1 < (l0.length : Int) := sqd; obtain ⟨ad162, e162, hx162_0⟩ := Kd.at_int HR0.out x7_1 p162 q162
    cases e162
    replace hx162_0 := sqh HB hx162_0; replace p162 := eq_true p162; replace q162 := eq_true q162; go_wp2; go_meet
    case rel => exact ⟨_, (decide ((rd l0 x7_1) ≥ a1)), zq3, H', ⟨zq17 HK1⟩, ⟨zq2 HO_5⟩, ⟨zq4⟩⟩
   case rest =>
    clear HC6; (try clear p1); (try clear q1); (try clear hx1); (try clear p2); (try clear c5); (try clear c5b0); (try clear c7); (try clear c8); (try clear c8b0); (try clear hx162_0); (try clear p162); (try clear p2); (try clear q162); obtain ⟨kq, x24_5, rfl, HA, HJ5, HO_5, HB⟩ := hcut
    cases kq with
    | zero => exact absurd HA.out (by simp [spec_l00Put.j1])
    | succ kj5 =>
     have H := HA.out; clear HA; simp only [spec_l00Put.j1] at H; refine sqC (x24_5 = true) (fun c9 => ?_) (fun c9 => ?_)
     ·replace c9 := Bool.eq_false_iff.mpr c9; subst c9; rw [if_neg (show ¬ (false = true) by decide)] at H; obtain ⟨c19, H⟩ := sqI H; replace c19 := decide_eq_true c19; obtain ⟨c20, H⟩ := sqI H; replace c20 := decide_eq_true c20; obtain ⟨c21, H⟩ := sqI H; have LMc21 := mA c21; clear c21; obtain ⟨y176, hy176⟩ : ∃ y_ : List Int, y_ = (x5_1 ++ [rd l0 x7_1]) := ⟨_, rfl⟩
      replace H : (spec_l00Put.l0 kj5 l0 a1 y176 x6_1 (wrap64 (x7_1 + 1))) = some r := by first | (rw [hy176]; with_reducible exact H) | (have H2_ := (Option.bind_some _ _).symm.trans H; rw [hy176]; with_reducible exact H2_) | (have H2_ := (Option.bind_some _ _).symm.trans H; with_reducible exact H2_) | with_reducible exact H | (rw [hy176]; exact H) | exact H
      have Ny176 := mA hy176; clear hy176; have H' := mA H; clear H; have p175 : 0 ≤ (x7_1 : Int) := sqd; have q175 : x7_1 < (l0.length : Int) := sqd; obtain ⟨ad175, e175, hx175_0⟩ := Kd.at_int HR0.out x7_1 p175 q175
      cases e175
      replace hx175_0 := sqh HB hx175_0; replace p175 := eq_true p175; replace q175 := eq_true q175; go_wp2_with (first | ((with_reducible refine gate_builtin (b := .append) (xs := #[.tmp 35, .tmp 40]) rfl ?_); at_builtin; refine Kd.R_append (Kd.int .i64) (w0 := w) w.heap.size rfl (.tmp 35) (.tmp 40) 22 2 (.int .i64 0) 8 rfl Try.underlying22 info2 rfl (by decide) (by omega) u5 x5_1 (rd l0 x7_1) [.int .i64 (rd l0 x7_1)] (fun _ => True) (fun _ => False) rfl rfl ?aP (fun _ hk => hk.elim) ?aF ?aO ?aB ?aS ?aL ?_; (case aP => exact rfl); (case aB => exact zq4); (case aF => exact (fun _ _ => trivial)); (case aO => exact (zq2 HO_5)); (case aS => exact (below_size zq4)); (case aL => have := LMc21.out; omega); intro v177 w22 ho hb hg hat; rw [← Ny176.out] at ho; replace HB := mA (hb); have HO178 := mA (ho); clear HO_5 ho hb hg hat)); go_roundg kj5
      case measure => have := HK1.out; have := HJ5.out; omega
      case rel => exact ⟨(y176), (x6_1), (wrap64 (x7_1 + 1)), zq3, zq3, H', ⟨by have := HK1.out; have := HJ5.out; omega⟩, ⟨zq2 HO178⟩, ⟨zq4⟩⟩
     subst c9; rw [if_pos rfl] at H; obtain ⟨c10, H⟩ := sqI H; replace c10 := decide_eq_true c10; obtain ⟨c11, H⟩ := sqI H; replace c11 := decide_eq_true c11; refine sqC ((rd l0 x7_1) > a1) (fun c12 => ?_) (fun c12 => ?_)
     ·rw [if_neg c12] at H; replace c12 := decide_eq_false c12; obtain ⟨c17, H⟩ := sqI H; have LMc17 := mA c17; clear c17; obtain ⟨y172, hy172⟩ : ∃ y_ : List Int, y_ = (x5_1 ++ [rd l0 x7_1]) := ⟨_, rfl⟩
      replace H : (spec_l00Put.l0 kj5 l0 a1 y172 true (wrap64 (x7_1 + 1))) = some r := by first | (rw [hy172]; with_reducible exact H) | (have H2_ := (Option.bind_some _ _).symm.trans H; rw [hy172]; with_reducible exact H2_) | (have H2_ := (Option.bind_some _ _).symm.trans H; with_reducible exact H2_) | with_reducible exact H | (rw [hy172]; exact H) | exact H
      have Ny172 := mA hy172; clear hy172; have H' := mA H; clear H; have p163 : 0 ≤ (x7_1 : Int) := sqd; have q163 : x7_1 < (l0.length : Int) := sqd; obtain ⟨ad163, e163, hx163_0⟩ := Kd.at_int HR0.out x7_1 p163 q163
      cases e163
      replace hx163_0 := sqh HB hx163_0; replace p163 := eq_true p163; replace q163 := eq_true q163; have p171 : 0 ≤ (x7_1 : Int) := sqd; have q171 : x7_1 < (l0.length : Int) := sqd; obtain ⟨ad171, e171, hx171_0⟩ := Kd.at_int HR0.out x7_1 p171 q171; obtain rfl : ad163 = ad171 := (by injection e171); replace hx171_0 := sqh HB hx171_0; replace p171 := eq_true p171; replace q171 := eq_true q171; go_wp2_with (first | ((with_reducible refine gate_builtin (b := .append) (xs := #[.tmp 35, .tmp 40]) rfl ?_); at_builtin; refine Kd.R_append (Kd.int .i64) (w0 := w) w.heap.size rfl (.tmp 35) (.tmp 40) 22 2 (.int .i64 0) 8 rfl Try.underlying22 info2 rfl (by decide) (by omega) u5 x5_1 (rd l0 x7_1) [.int .i64 (rd l0 x7_1)] (fun _ => True) (fun _ => False) rfl rfl ?aP (fun _ hk => hk.elim) ?aF ?aO ?aB ?aS ?aL ?_; (case aP => exact rfl); (case aB => exact zq4); (case aF => exact (fun _ _ => trivial)); (case aO => exact (zq2 HO_5)); (case aS => exact (below_size zq4)); (case aL => have := LMc17.out; omega); intro v173 w18 ho hb hg hat; rw [← Ny172.out] at ho; replace HB := mA (hb); have HO174 := mA (ho); clear HO_5 ho hb hg hat)); go_roundg kj5
      case measure => have := HK1.out; have := HJ5.out; omega
      case rel => exact ⟨(y172), (true), (wrap64 (x7_1 + 1)), zq3, zq3, H', ⟨by have := HK1.out; have := HJ5.out; omega⟩, ⟨zq2 HO174⟩, ⟨zq4⟩⟩
     rw [if_pos c12] at H; replace c12 := decide_eq_true c12; obtain ⟨c13, H⟩ := sqI H; have LMc13 := mA c13; clear c13; obtain ⟨y164, hy164⟩ : ∃ y_ : List Int, y_ = (x5_1 ++ [a1]) := ⟨_, rfl⟩
     replace H : (if y164.length < 17592186044416 then (spec_l00Put.l0 kj5 l0 a1 (y164 ++ [rd l0 x7_1]) true (wrap64 (x7_1 + 1))) else (none)) = some r := by first | (rw [hy164]; with_reducible exact H) | (have H2_ := (Option.bind_some _ _).symm.trans H; rw [hy164]; with_reducible exact H2_) | (have H2_ := (Option.bind_some _ _).symm.trans H; with_reducible exact H2_) | with_reducible exact H | (rw [hy164]; exact H) | exact H
     have Ny164 := mA hy164; clear hy164; obtain ⟨c14, H⟩ := sqI H; have LMc14 := mA c14; clear c14; obtain ⟨y168, hy168⟩ : ∃ y_ : List Int, y_ = (y164 ++ [rd l0 x7_1]) := ⟨_, rfl⟩
     replace H : (spec_l00Put.l0 kj5 l0 a1 y168 true (wrap64 (x7_1 + 1))) = some r := by first | (rw [hy168]; with_reducible exact H) | (have H2_ := (Option.bind_some _ _).symm.trans H; rw [hy168]; with_reducible exact H2_) | (have H2_ := (Option.bind_some _ _).symm.trans H; with_reducible exact H2_) | with_reducible exact H | (rw [hy168]; exact H) | exact H
     have Ny168 := mA hy168; clear hy168; have H' := mA H; clear H; have p163 : 0 ≤ (x7_1 : Int) := sqd; have q163 : x7_1 < (l0.length : Int) := sqd; obtain ⟨ad163, e163, hx163_0⟩ := Kd.at_int HR0.out x7_1 p163 q163
     cases e163
     replace hx163_0 := sqh HB hx163_0; replace p163 := eq_true p163; replace q163 := eq_true q163; go_wp2_with (first | ((with_reducible refine gate_builtin (b := .append) (xs := #[.tmp 31, .tmp 33]) rfl ?_); at_builtin; refine Kd.R_append (Kd.int .i64) (w0 := w) w.heap.size rfl (.tmp 31) (.tmp 33) 22 2 (.int .i64 0) 8 rfl Try.underlying22 info2 rfl (by decide) (by omega) u5 x5_1 a1 [.int .i64 a1] (fun _ => True) (fun _ => False) rfl rfl ?aP (fun _ hk => hk.elim) ?aF ?aO ?aB ?aS ?aL ?_; (case aP => exact rfl); (case aB => exact zq4); (case aF => exact (fun _ _ => trivial)); (case aO => exact (zq2 HO_5)); (case aS => exact (below_size zq4)); (case aL => have := LMc13.out; omega); intro v165 w15 ho hb hg hat; rw [← Ny164.out] at ho; replace HB := mA (hb); have HO166 := mA (ho); clear HO_5 ho hb hg hat; have p167 : 0 ≤ (x7_1 : Int) := sqd; have q167 : x7_1 < (l0.length : Int) := sqd; obtain ⟨ad167, e167, hx167_0⟩ := Kd.at_int HR0.out x7_1 p167 q167; obtain rfl : ad163 = ad167 := (by injection e167); replace hx167_0 := sqh HB hx167_0; replace p167 := eq_true p167; replace q167 := eq_true q167) | ((with_reducible refine gate_builtin (b := .append) (xs := #[.tmp 35, .tmp 40]) rfl ?_); at_builtin; refine Kd.R_append (Kd.int .i64) (w0 := w) w.heap.size rfl (.tmp 35) (.tmp 40) 22 2 (.int .i64 0) 8 rfl Try.underlying22 info2 rfl (by decide) (by omega) v165 y164 (rd l0 x7_1) [.int .i64 (rd l0 x7_1)] (fun _ => True) (fun _ => False) rfl rfl ?aP (fun _ hk => hk.elim) ?aF ?aO ?aB ?aS ?aL ?_; (case aP => exact rfl); (case aB => exact zq4); (case aF => exact (fun _ _ => trivial)); (case aO => exact (zq2 HO166)); (case aS => exact (below_size zq4)); (case aL => have := LMc14.out; omega); intro v169 w16 ho hb hg hat; rw [← Ny168.out] at ho; replace HB := mA (hb); have HO170 := mA (ho); clear HO166 ho hb hg hat)); go_roundg kj5
     case measure => have := HK1.out; have := HJ5.out; omega
     case rel => exact ⟨(y168), (true), (wrap64 (x7_1 + 1)), zq3, zq3, H', ⟨by have := HK1.out; have := HJ5.out; omega⟩, ⟨zq2 HO170⟩, ⟨zq4⟩⟩

end Go.Proofs.Ytlhpejabdmejbaa.PFnExactSumWeights
