/- Written by this session's program (wip/tool/xprint.py) over the kit's printer. -/
import Derived.Test.YtlhpejabdmejbaaPFnExactPermutationMixturex0
import Derived.Test.YtlhpejabdmejbaaPFnExactPermutationMixturex6
namespace Go.Proofs.Ytlhpejabdmejbaa.PFnExactPermutationMixture
open Go.RowKit Go.Proofs.YtlhpejabdmejbaaW.PrintWords Go.Proofs.YtlhpejabdmejbaaW.PrintLast Go.Proofs.YtlhpejabdmejbaaW.PrintMore
attribute [local go_sem] max2_int min2_int max_two min_two max_three min_three max_four min_four   -- for this text's walks alone
set_option linter.unusedVariables false
set_option linter.unusedSimpArgs false

/-! ### slices_Concat_int64_int64: function 109 -/
mutual
def slices_Concat_int64_int64.l0 : Nat → List (List Int) → Int → List (List Int) → Int → Int → Option (List Int)
  | 0, _, _, _, _, _ => none
  | k + 1, x0, x3, x9, x10, x11 => if x11 < x10 then (if 0 ≤ x11 then (if x11 < (x9.length : Int) then (if (wrap64 (x3 + ((rd_L1 x9 x11).length : Int))) < 0 then (none) else (slices_Concat_int64_int64.l0 k x0 (wrap64 (x3 + ((rd_L1 x9 x11).length : Int))) x9 x10 (wrap64 (x11 + 1)))) else (none)) else (none)) else ((slices_Grow_int64_int64_nil.f x3).bind fun t191 => (slices_Concat_int64_int64.l1 k t191 x0 (x0.length : Int) 0))
def slices_Concat_int64_int64.l1 : Nat → List Int → List (List Int) → Int → Int → Option (List Int)
  | 0, _, _, _, _ => none
  | k + 1, x6, x25, x26, x27 => if x27 < x26 then (if 0 ≤ x27 then (if x27 < (x25.length : Int) then (if x6.length + (rd_L1 x25 x27).length < 17592186044416 then (slices_Concat_int64_int64.l1 k (x6 ++ (rd_L1 x25 x27)) x25 x26 (wrap64 (x27 + 1))) else (none)) else (none)) else (none)) else (some x6)
end
def slices_Concat_int64_int64.f (k : Nat) (l0 : List (List Int)) : Option (List Int) := slices_Concat_int64_int64.l0 k l0 0 l0 (l0.length : Int) 0
theorem slices_Concat_int64_int64.mono_l : ∀ k, (∀ y0 y1 y2 y3 y4, LeO (slices_Concat_int64_int64.l0 k y0 y1 y2 y3 y4) (slices_Concat_int64_int64.l0 (k + 1) y0 y1 y2 y3 y4)) ∧ (∀ y0 y1 y2 y3, LeO (slices_Concat_int64_int64.l1 k y0 y1 y2 y3) (slices_Concat_int64_int64.l1 (k + 1) y0 y1 y2 y3))
  | 0 => ⟨fun _ _ _ _ _ r h => by simp [slices_Concat_int64_int64.l0] at h, fun _ _ _ _ r h => by simp [slices_Concat_int64_int64.l1] at h⟩
  | k + 1 => by
   obtain ⟨ih0, ih1⟩ := slices_Concat_int64_int64.mono_l k
   refine ⟨?_, ?_⟩ <;> intros
   all_goals first | unfold slices_Concat_int64_int64.l0 | unfold slices_Concat_int64_int64.l1
   all_goals repeat' first | (with_reducible first | apply ih0 | apply ih1 | exact LeO.refl _ | exact LeO.none _ | refine LeO.ite ?_ ?_ | refine LeO.bind ?_ (fun _ => ?_)) | apply ih0 | apply ih1 | exact LeO.none _ | refine LeO.ite ?_ ?_ | refine LeO.bind ?_ (fun _ => ?_)
theorem slices_Concat_int64_int64.mono : ∀ a0 k, LeO (slices_Concat_int64_int64.f k a0) (slices_Concat_int64_int64.f (k + 1) a0) := by
  intro a0 k
  obtain ⟨ih0, ih1⟩ := slices_Concat_int64_int64.mono_l k
  unfold slices_Concat_int64_int64.f
  repeat' first | (with_reducible first | apply ih0 | apply ih1 | exact LeO.refl _ | exact LeO.none _ | refine LeO.ite ?_ ?_ | refine LeO.bind ?_ (fun _ => ?_)) | apply ih0 | apply ih1 | exact LeO.none _ | refine LeO.ite ?_ ?_ | refine LeO.bind ?_ (fun _ => ?_)
set_option maxHeartbeats 8000000 in
set_option maxRecDepth 100000 in
theorem slices_Concat_int64_int64.calls (k : Nat) (A0 : Option Addr) (c0 : Nat) (l0 : List (List Int)) (r : List Int) (w : World) (hr0 : Kd.C (Kd.slice 2 (Kd.int .i64)) w A0 l0.length l0) (hc0 : l0.length ≤ c0) (h : slices_Concat_int64_int64.f k l0 = some r) :
    Calls Try.prog 109 #[.slice A0 l0.length c0] w fun e w' => ∃ v0_ : Value, e = .returned (v0_) ∧ Kd.R (Kd.int .i64) 2 w' w.heap.size (fun _ => True) v0_ r ∧ Below w.heap.size w w' := by
 have HR0 := mA hr0; have HC0 := mA hc0; clear hr0 hc0; have HB := mA (Below.refl w.heap.size w); have H : (slices_Concat_int64_int64.l0 k l0 0 l0 (l0.length : Int) 0) = some r := h; clear h; have H' := mA H; clear H; go_enter Try.func109, Try.ntmps109; go_wp2; go_loopg [3, 11] k (fun kq v3 v11 w' => ∃ (x3_1 : Int) (x11_1 : Int), v3 = .int .i64 x3_1 ∧ v11 = .int .i64 x11_1 ∧ Aside0 (slices_Concat_int64_int64.l0 kq l0 x3_1 l0 (l0.length : Int) x11_1 = some r) ∧ Aside0 (kq ≤ k) ∧ Aside0 (Below w.heap.size w w'))
 case atStart => exact ⟨(0), (0), zq4, zq4, H', ⟨Nat.le_refl _⟩, ⟨zq0⟩⟩
 case round =>
  clear H'; obtain ⟨x3_1, x11_1, rfl, rfl, HA, HK1, HB⟩ := hrel
  cases gk with
  | zero => exact absurd HA.out (by simp [slices_Concat_int64_int64.l0])
  | succ k1 =>
   have H := HA.out; clear HA; simp only [slices_Concat_int64_int64.l0] at H; by_cases c2 : x11_1 < (l0.length : Int)
   ·rw [if_pos c2] at H; replace c2 := decide_eq_true c2; obtain ⟨c3, H⟩ := sqI H; replace c3 := decide_eq_true c3; obtain ⟨c4, H⟩ := sqI H; have c4b0 : decide (x11_1 < (l0.length : Int)) = true := decide_eq_true c4; clear c4; obtain ⟨c5, H⟩ := sqJ H; replace c5 := decide_eq_false c5; have H' := mA H; clear H; have p190 : 0 ≤ (x11_1 : Int) := sqd; have q190 : x11_1 < (l0.length : Int) := sqd; obtain ⟨ad190, A190_0, c190_0, e190, hx190_0, hl190_0, hi190_0⟩ := at_L1 HR0.out x11_1 p190 q190
    cases e190
    replace hx190_0 := sqh HB hx190_0; have HR190_0 := mA hi190_0; have HC190_0 := mA hl190_0; clear hi190_0 hl190_0; replace p190 := eq_true p190; replace q190 := eq_true q190; go_wp2; go_roundg k1
    case measure => have := HK1.out; omega
    case rel => exact ⟨(wrap64 (x3_1 + ((rd_L1 l0 x11_1).length : Int))), (wrap64 (x11_1 + 1)), zq4, zq4, H', ⟨by have := HK1.out; omega⟩, ⟨zq0⟩⟩
   rw [if_neg c2] at H; replace c2 := decide_eq_false c2; obtain ⟨t191, A6, H⟩ := sqB H; have H' := mA H; clear H; go_wp2_with (first | (refine sqG 132 (some 24) Try.func132 #[.slice none 0 0, .int .i64 x3_1] (h := ?_); (with_reducible refine (slices_Grow_int64_int64_nil.calls  x3_1 t191 _ A6.out).mono ?_); rintro e w7 ⟨v192, rfl, ho0, hb⟩; refine ⟨_, rfl, ?_⟩; have HO193 := mA (Kd.R_lower ho0 (below_size zq0)); replace HB := mA (below_step zq0 hb); (try clear hb ho0))); go_loopg [6, 27] k1 (fun kq v6 v27 w' => ∃ (x6_2 : List Int) (x27_2 : Int), v27 = .int .i64 x27_2 ∧ Aside0 (slices_Concat_int64_int64.l1 kq x6_2 l0 (l0.length : Int) x27_2 = some r) ∧ Aside0 (kq ≤ k1) ∧ Aside0 (Kd.R (Kd.int .i64) 2 w' w.heap.size (fun _ => True) v6 x6_2) ∧ Aside0 (Below w.heap.size w w'))
   case atStart => exact ⟨(t191), (0), zq4, H', ⟨Nat.le_refl _⟩, ⟨zq3 HO193⟩, ⟨zq0⟩⟩
   case round =>
    clear H'; (try clear c2); (try clear c2b0); obtain ⟨x6_2, x27_2, rfl, HA, HK2, HO_6, HB⟩ := hrel
    cases gk with
    | zero => exact absurd HA.out (by simp [slices_Concat_int64_int64.l1])
    | succ k2 =>
     have H := HA.out; clear HA; simp only [slices_Concat_int64_int64.l1] at H; refine sqC (x27_2 < (l0.length : Int)) (fun c8 => ?_) (fun c8 => ?_)
     ·rw [if_neg c8] at H; replace c8 := decide_eq_false c8; obtain rfl := Option.some.inj H; go_wp2; go_ret; exact ⟨_, zq7, zq3 HO_6, zq0⟩
     rw [if_pos c8] at H; replace c8 := decide_eq_true c8; obtain ⟨c9, H⟩ := sqI H; replace c9 := decide_eq_true c9; obtain ⟨c10, H⟩ := sqI H; replace c10 := decide_eq_true c10; obtain ⟨c11, H⟩ := sqI H; have LMc11 := mA c11; clear c11; obtain ⟨y195, hy195⟩ : ∃ y_ : List Int, y_ = (x6_2 ++ (rd_L1 l0 x27_2)) := ⟨_, rfl⟩
     replace H : (slices_Concat_int64_int64.l1 k2 y195 l0 (l0.length : Int) (wrap64 (x27_2 + 1))) = some r := by first | (rw [hy195]; with_reducible exact H) | (have H2_ := (Option.bind_some _ _).symm.trans H; rw [hy195]; with_reducible exact H2_) | (have H2_ := (Option.bind_some _ _).symm.trans H; with_reducible exact H2_) | with_reducible exact H | (rw [hy195]; exact H) | exact H
     have Ny195 := mA hy195; clear hy195; have H' := mA H; clear H; have p194 : 0 ≤ (x27_2 : Int) := sqd; have q194 : x27_2 < (l0.length : Int) := sqd; obtain ⟨ad194, A194_0, c194_0, e194, hx194_0, hl194_0, hi194_0⟩ := at_L1 HR0.out x27_2 p194 q194
     cases e194
     replace hx194_0 := sqh HB hx194_0; have HR194_0 := mA hi194_0; have HC194_0 := mA hl194_0; clear hi194_0 hl194_0; replace p194 := eq_true p194; replace q194 := eq_true q194; go_wp2_with (first | ((with_reducible refine gate_builtin (b := .append) (xs := #[.tmp 31, .tmp 32]) rfl ?_); at_builtin; refine Kd.R_append_rows (Kd.int .i64) (w0 := w) w.heap.size rfl (.tmp 31) (.tmp 32) 22 2 (.int .i64 0) 8 rfl Try.underlying22 info2 rfl (by decide) (by omega) u6 x6_2 (rd_L1 l0 x27_2) _ _ _ (fun _ => True) (fun _ => False) rfl rfl ?aO ?aR (fun _ _ h => h) (fun _ h => h.elim) ?aF ?aB ?aS ?aL ?_; (case aR => exact zq9 HR194_0); (case aB => exact zq19); (case aF => exact zq26); (case aO => exact zq30 HO_6); (case aS => exact zq24); (case aL => have := LMc11.out; omega); intro v196 w12 ho hb hg hat; rw [← Ny195.out] at ho; replace HB := mA (hb); have HO197 := mA (ho); clear HO_6 ho hb hg hat)); go_roundg k2
     case measure => have := HK1.out; have := HK2.out; omega
     case rel => exact ⟨(y195), (wrap64 (x27_2 + 1)), zq4, H', ⟨zq18 HK1 HK2⟩, ⟨zq3 HO197⟩, ⟨zq0⟩⟩

/-! ### impl_turned: function 110 -/
mutual
def impl_turned.l0 : Nat → List (List Int) → List (List Int) → Int → Int → Option ((List (List Int)))
  | 0, _, _, _, _ => none
  | k + 1, x3, x13, x14, x15 => if x15 < x14 then (if 0 ≤ x15 then (if x15 < (x13.length : Int) then (impl_turned.l1 k x3 x13 x14 x15 (rd_L1 x13 x15) ((rd_L1 x13 x15).length : Int) 0) else (none)) else (none)) else (some x3)
def impl_turned.l1 : Nat → List (List Int) → List (List Int) → Int → Int → List Int → Int → Int → Option ((List (List Int)))
  | 0, _, _, _, _, _, _, _ => none
  | k + 1, x3, x13, x14, x15, x19, x20, x21 => if x21 < x20 then (if 0 ≤ x21 then (if x21 < (x19.length : Int) then (if x21 < (x3.length : Int) then (if (rd_L1 x3 x21).length < 17592186044416 then (impl_turned.l1 k (x3.set (x21 : Int).toNat ((rd_L1 x3 x21) ++ [rd x19 x21])) x13 x14 x15 x19 x20 (wrap64 (x21 + 1))) else (none)) else (none)) else (none)) else (none)) else (impl_turned.l0 k x3 x13 x14 (wrap64 (x15 + 1)))
end
def impl_turned.f (k : Nat) (l0 : List (List Int)) : Option ((List (List Int))) := if 0 < (l0.length : Int) then (if 0 ≤ ((rd_L1 l0 0).length : Int) then (if (((rd_L1 l0 0).length : Int) : Int).toNat ≤ 11728124029610 then (impl_turned.l0 k (List.replicate (((rd_L1 l0 0).length : Int) : Int).toNat []) l0 (l0.length : Int) 0) else (none)) else (none)) else (none)
theorem impl_turned.mono_l : ∀ k, (∀ y0 y1 y2 y3, LeO (impl_turned.l0 k y0 y1 y2 y3) (impl_turned.l0 (k + 1) y0 y1 y2 y3)) ∧ (∀ y0 y1 y2 y3 y4 y5 y6, LeO (impl_turned.l1 k y0 y1 y2 y3 y4 y5 y6) (impl_turned.l1 (k + 1) y0 y1 y2 y3 y4 y5 y6))
  | 0 => ⟨fun _ _ _ _ r h => by simp [impl_turned.l0] at h, fun _ _ _ _ _ _ _ r h => by simp [impl_turned.l1] at h⟩
  | k + 1 => by
   obtain ⟨ih0, ih1⟩ := impl_turned.mono_l k
   refine ⟨?_, ?_⟩ <;> intros
   all_goals first | unfold impl_turned.l0 | unfold impl_turned.l1
   all_goals repeat' first | (with_reducible first | apply ih0 | apply ih1 | exact LeO.refl _ | exact LeO.none _ | refine LeO.ite ?_ ?_ | refine LeO.bind ?_ (fun _ => ?_)) | apply ih0 | apply ih1 | exact LeO.none _ | refine LeO.ite ?_ ?_ | refine LeO.bind ?_ (fun _ => ?_)
theorem impl_turned.mono : ∀ a0 k, LeO (impl_turned.f k a0) (impl_turned.f (k + 1) a0) := by
  intro a0 k
  obtain ⟨ih0, ih1⟩ := impl_turned.mono_l k
  unfold impl_turned.f
  repeat' first | (with_reducible first | apply ih0 | apply ih1 | exact LeO.refl _ | exact LeO.none _ | refine LeO.ite ?_ ?_ | refine LeO.bind ?_ (fun _ => ?_)) | apply ih0 | apply ih1 | exact LeO.none _ | refine LeO.ite ?_ ?_ | refine LeO.bind ?_ (fun _ => ?_)
set_option maxHeartbeats 8000000 in
set_option maxRecDepth 100000 in
theorem impl_turned.calls (k : Nat) (A0 : Option Addr) (c0 : Nat) (l0 : List (List Int)) (r : List (List Int)) (w : World) (hr0 : Kd.C (Kd.slice 2 (Kd.int .i64)) w A0 l0.length l0) (hc0 : l0.length ≤ c0) (h : impl_turned.f k l0 = some r) :
    Calls Try.prog 110 #[.slice A0 l0.length c0] w fun e w' => ∃ v0_ : Value, e = .returned (v0_) ∧ Kd.S (Kd.slice 2 (Kd.int .i64)) 22 w' w.heap.size (fun _ => True) v0_ r ∧ Below w.heap.size w w' := by
 have HR0 := mA hr0; have HC0 := mA hc0; clear hr0 hc0; have HB := mA (Below.refl w.heap.size w); have H : (if 0 < (l0.length : Int) then (if 0 ≤ ((rd_L1 l0 0).length : Int) then (if (((rd_L1 l0 0).length : Int) : Int).toNat ≤ 11728124029610 then (impl_turned.l0 k (List.replicate (((rd_L1 l0 0).length : Int) : Int).toNat []) l0 (l0.length : Int) 0) else (none)) else (none)) else (none)) = some r := h; clear h; obtain ⟨c2, H⟩ := sqI H; have c2b0 := decide_eq_true c2; have c2b1 : decide (0 < l0.length) = true := decide_eq_true (by omega); clear c2; obtain ⟨c3, H⟩ := sqI H; have c3b0 := eq_true c3; have c3b1 := decide_eq_true c3; clear c3; obtain ⟨c4, H⟩ := sqI H; have c4b0 := eq_true c4; have c4b1 : decide ((((rd_L1 l0 0).length : Int) : Int).toNat ≤ 11728124029610) = true := decide_eq_true c4; clear c4; obtain ⟨y199, hy199⟩ : ∃ y_ : List (List Int), y_ = (List.replicate (((rd_L1 l0 0).length : Int) : Int).toNat []) := ⟨_, rfl⟩
 replace H : (impl_turned.l0 k y199 l0 (l0.length : Int) 0) = some r := by first | (rw [hy199]; with_reducible exact H) | (have H2_ := (Option.bind_some _ _).symm.trans H; rw [hy199]; with_reducible exact H2_) | (have H2_ := (Option.bind_some _ _).symm.trans H; with_reducible exact H2_) | with_reducible exact H | (rw [hy199]; exact H) | exact H
 have Ny199 := mA hy199; clear hy199; have H' := mA H; clear H; have p198 : 0 ≤ (0 : Int) := (by omega); have q198 : 0 < (l0.length : Int) := sqd; obtain ⟨ad198, A198_0, c198_0, e198, hx198_0, hl198_0, hi198_0⟩ := at_L1 HR0.out 0 p198 q198
 cases e198
 have qi198 : (0 < l0.length) = True := eq_true (by omega); (try rw [show ((0 : Int)).toNat = 0 from rfl] at hx198_0); (try rw [Addr.add_zero'] at hx198_0); have HR198_0 := mA hi198_0; have HC198_0 := mA hl198_0; clear hi198_0 hl198_0; replace p198 := eq_true p198; replace q198 := eq_true q198; go_enter Try.func110, Try.ntmps110; go_wp2_with (first | ((with_reducible refine gate_dst (N := 12) rfl ?_); refine Kd.S_make (Kd.slice 2 (Kd.int .i64)) _ 22 rfl (N := 12) rfl 23 _ _ rfl ((rd_L1 l0 0).length : Int) rfl rfl Try.underlying23 (.slice none 0 0) 24 info22 rfl (by decide) (by omega) [] (ok := fun _ => True) (okp := fun _ => True) ⟨_, rfl, Kd.R_nil _ _ _ _ _⟩ (fun _ hk => hk) trivial (sqd) (Nat.le_trans (Nat.mul_le_mul_right _ (sqd : ((rd_L1 l0 0).length : Int).toNat ≤ 11728124029610)) (by omega)) (Below.refl _ _) (Nat.le_refl _) ?_; intro v200 w5 ho6 hb hg_ hnew_; clear hg_ hnew_; (first | rw [← Ny199.out] at ho6 | (simp only [Int.reduceToNat] at ho6; rw [← Ny199.out] at ho6)); have HO201 := mA (Kd.S_lower ho6 (below_size zq0)); replace HB := mA (below_step zq0 hb); clear hb ho6)); go_loopg [15] k (fun kq v15 w' => ∃ (x3_1 : List (List Int)) (x15_1 : Int), v15 = .int .i64 x15_1 ∧ Aside0 (impl_turned.l0 kq x3_1 l0 (l0.length : Int) x15_1 = some r) ∧ Aside0 (kq ≤ k) ∧ Aside0 (Kd.S (Kd.slice 2 (Kd.int .i64)) 22 w' w.heap.size (fun _ => True) v200 x3_1) ∧ Aside0 (Below w.heap.size w w'))
 case atStart => exact ⟨(y199), (0), zq4, H', ⟨Nat.le_refl _⟩, ⟨zq5 HO201⟩, ⟨zq0⟩⟩
 case round =>
  clear H'; (try clear c2); (try clear c2b0); (try clear c2b1); (try clear c3); (try clear c3b0); (try clear c3b1); (try clear c4); (try clear c4b0); (try clear c4b1); (try clear hx198_0); (try clear p198); (try clear q198); obtain ⟨x3_1, x15_1, rfl, HA, HK1, HO_3, HB⟩ := hrel
  cases gk with
  | zero => exact absurd HA.out (by simp [impl_turned.l0])
  | succ k1 =>
   have H := HA.out; clear HA; simp only [impl_turned.l0] at H; refine sqC (x15_1 < (l0.length : Int)) (fun c7 => ?_) (fun c7 => ?_)
   ·rw [if_neg c7] at H; replace c7 := decide_eq_false c7; obtain rfl := Option.some.inj H; go_wp2; go_ret; exact ⟨_, zq7, zq5 HO_3, zq0⟩
   rw [if_pos c7] at H; replace c7 := decide_eq_true c7; obtain ⟨c8, H⟩ := sqI H; replace c8 := decide_eq_true c8; obtain ⟨c9, H⟩ := sqI H; replace c9 := decide_eq_true c9; have H' := mA H; clear H; have p202 : 0 ≤ (x15_1 : Int) := sqd; have q202 : x15_1 < (l0.length : Int) := sqd; obtain ⟨ad202, A202_0, c202_0, e202, hx202_0, hl202_0, hi202_0⟩ := at_L1 HR0.out x15_1 p202 q202; obtain rfl : ad198 = ad202 := (by injection e202); replace hx202_0 := sqh HB hx202_0; have HR202_0 := mA hi202_0; have HC202_0 := mA hl202_0; clear hi202_0 hl202_0; replace p202 := eq_true p202; replace q202 := eq_true q202; go_wp2; go_loopg [21] k1 (fun kq v21 w' => ∃ (x3_2 : List (List Int)) (x21_2 : Int), v21 = .int .i64 x21_2 ∧ Aside0 (impl_turned.l1 kq x3_2 l0 (l0.length : Int) x15_1 (rd_L1 l0 x15_1) ((rd_L1 l0 x15_1).length : Int) x21_2 = some r) ∧ Aside0 (kq ≤ k1) ∧ Aside0 (Kd.S (Kd.slice 2 (Kd.int .i64)) 22 w' w.heap.size (fun _ => True) v200 x3_2) ∧ Aside0 (Below w.heap.size w w'))
   case atStart => exact ⟨(x3_1), (0), zq4, H', ⟨Nat.le_refl _⟩, ⟨zq5 HO_3⟩, ⟨zq0⟩⟩
   case round =>
    clear H'; (try clear c2); (try clear c2b0); (try clear c2b1); (try clear c3); (try clear c3b0); (try clear c3b1); (try clear c4); (try clear c4b0); (try clear c4b1); (try clear c7); (try clear c7b0); (try clear c8); (try clear c8b0); (try clear c9); (try clear c9b0); (try clear hx198_0); (try clear hx202_0); (try clear p198); (try clear p202); (try clear q198); (try clear q202); obtain ⟨x3_2, x21_2, rfl, HA, HK2, HO_3, HB⟩ := hrel
    cases gk with
    | zero => exact absurd HA.out (by simp [impl_turned.l1])
    | succ k2 =>
     have H := HA.out; clear HA; simp only [impl_turned.l1] at H; refine sqC (x21_2 < ((rd_L1 l0 x15_1).length : Int)) (fun c10 => ?_) (fun c10 => ?_)
     ·rw [if_neg c10] at H; replace c10 := decide_eq_false c10; have H' := mA H; clear H; go_wp2; go_roundg k2
      case measure => have := HK1.out; have := HK2.out; omega
      case rel => exact ⟨(x3_2), (wrap64 (x15_1 + 1)), zq4, H', ⟨zq18 HK1 HK2⟩, ⟨zq5 HO_3⟩, ⟨zq0⟩⟩
     rw [if_pos c10] at H; replace c10 := decide_eq_true c10; obtain ⟨c11, H⟩ := sqI H; replace c11 := decide_eq_true c11; obtain ⟨c12, H⟩ := sqI H; replace c12 := decide_eq_true c12; obtain ⟨c13, H⟩ := sqI H; have c13b0 : decide (x21_2 < (x3_2.length : Int)) = true := decide_eq_true c13; clear c13; obtain ⟨c14, H⟩ := sqI H; have LMc14 := mA c14; clear c14; obtain ⟨y205, hy205⟩ : ∃ y_ : List Int, y_ = ((rd_L1 x3_2 x21_2) ++ [rd (rd_L1 l0 x15_1) x21_2]) := ⟨_, rfl⟩
     replace H : (impl_turned.l1 k2 (x3_2.set (x21_2 : Int).toNat y205) l0 (l0.length : Int) x15_1 (rd_L1 l0 x15_1) ((rd_L1 l0 x15_1).length : Int) (wrap64 (x21_2 + 1))) = some r := by first | (rw [hy205]; with_reducible exact H) | (have H2_ := (Option.bind_some _ _).symm.trans H; rw [hy205]; with_reducible exact H2_) | (have H2_ := (Option.bind_some _ _).symm.trans H; with_reducible exact H2_) | with_reducible exact H | (rw [hy205]; exact H) | exact H
     have Ny205 := mA hy205; clear hy205; obtain ⟨y208, hy208⟩ : ∃ y_ : List (List Int), y_ = (x3_2.set (x21_2 : Int).toNat y205) := ⟨_, rfl⟩
     replace H : (impl_turned.l1 k2 y208 l0 (l0.length : Int) x15_1 (rd_L1 l0 x15_1) ((rd_L1 l0 x15_1).length : Int) (wrap64 (x21_2 + 1))) = some r := by first | (rw [hy208]; with_reducible exact H) | (have H2_ := (Option.bind_some _ _).symm.trans H; rw [hy208]; with_reducible exact H2_) | (have H2_ := (Option.bind_some _ _).symm.trans H; with_reducible exact H2_) | with_reducible exact H | (rw [hy208]; exact H) | exact H
     have Ny208 := mA hy208; clear hy208; have H' := mA H; clear H; have p203 : 0 ≤ (x21_2 : Int) := sqd; have q203 : x21_2 < ((rd_L1 l0 x15_1).length : Int) := sqd; obtain ⟨ad203, e203, hx203_0⟩ := Kd.at_int HR202_0.out x21_2 p203 q203
     cases e203
     replace hx203_0 := sqh HB hx203_0; replace p203 := eq_true p203; replace q203 := eq_true q203; obtain ⟨Ao16, co16, eo16⟩ := Kd.S_slice HO_3.out; subst eo16; have p204 : 0 ≤ (x21_2 : Int) := sqd; have q204 : x21_2 < (x3_2.length : Int) := sqd; obtain ⟨ad204, A204_0, c204_0, e204, hx204_0, hl204_0, hi204_0⟩ := at_L1 (Kd.S_reads' HO_3.out).2.2 x21_2 p204 q204
     cases e204
     obtain ⟨ce204, hce204, hMe204, hcc204⟩ := Kd.S_get HO_3.out [] x21_2 p204 (by first | exact q204 | exact sqd | (have e_ := (Kd.S_reads' HO_3.out).1; omega)); obtain ⟨ve204_0, rfl, ge204_0⟩ := hMe204; have hv204_0 := hcc204 0 _ rfl; rw [Nat.add_zero, show ((Kd.slice 2 (Kd.int .i64))).sz = 1 from rfl, Nat.mul_one] at hv204_0; replace hv204_0 := Option.some.inj (hv204_0.symm.trans hx204_0); rw [hv204_0] at ge204_0; have HL204_0 := mA (show Kd.R (Kd.int .i64) 2 _ _ _ _ (rd_L1 x3_2 x21_2) from ge204_0); clear hv204_0 ge204_0; have HX204_0 := mA hx204_0; clear hcc204 hce204; have HR204_0 := mA hi204_0; have HC204_0 := mA hl204_0; clear hi204_0 hl204_0; replace p204 := eq_true p204; replace q204 := eq_true q204; obtain ⟨go17, co17, eo17, gb17, gl17, cl17, HG17⟩ := Kd.S_form HO_3.out (by have h_ : (x21_2 : Int) < ((x3_2.length : Int) : Int) := sqd; have h2_ : 0 ≤ (x21_2 : Int) := (sqd); omega); (first | cases eo17 | (injection eo17 with ea_ en_ ec_; (first | subst ea_ | (injection ea_ with ea_; subst ea_)); subst ec_; clear en_)); have GB17 := mA gb17; have GG17 := mA HG17; clear gb17 gl17 HG17; (first | simp only [add_plain] at hx204_0 | skip); obtain ⟨oki17, ce17, hcl17, hM17, hcc17, _, _, hH17⟩ := Kd.S_elem HO_3.out [] (x21_2 : Int) (sqd) (by have h_ : (x21_2 : Int) < ((x3_2.length : Int) : Int) := sqd; first | exact h_ | (have e_ := (Kd.S_reads' HO_3.out).1; omega) | simpa using h_); obtain ⟨ve17_0, rfl, ge17_0⟩ := hM17; have hv17 := hcc17 0 _ rfl; have hX17 := HX204_0.out; (try simp only [add_plain] at hX17); (try simp only [Nat.add_zero] at hv17); (try rw [show ((Kd.slice 2 (Kd.int .i64))).sz = 1 from rfl, Nat.mul_one] at hv17); replace hv17 := Option.some.inj (hv17.symm.trans hX17); subst hv17; clear hX17 hcc17 hcl17; have UU17 := mA (show Kd.R (Kd.int .i64) 2 _ w.heap.size oki17 (.slice A204_0 (rd_L1 x3_2 x21_2).length c204_0) (rd_L1 x3_2 x21_2) from ge17_0); have HH17 := mA hH17; have HN17 := mA (Kd.S_reads' HO_3.out).1; clear hH17 ge17_0
     go_wp2_with (first | ((with_reducible refine gate_builtin (b := .append) (xs := #[.tmp 31, .tmp 33]) rfl ?_); at_builtin; refine Kd.R_append (Kd.int .i64) (w0 := w) w.heap.size rfl (.tmp 31) (.tmp 33) 22 2 (.int .i64 0) 8 rfl Try.underlying22 info2 rfl (by decide) (by omega) (.slice A204_0 (rd_L1 x3_2 x21_2).length c204_0) (rd_L1 x3_2 x21_2) (rd (rd_L1 l0 x15_1) x21_2) [.int .i64 (rd (rd_L1 l0 x15_1) x21_2)] (fun k_ => oki17 k_ ∨ ((fun _ => True)) k_ ∧ wr.heap.size ≤ k_) (fun _ => False) rfl rfl ?aP (fun _ hk => hk.elim) ?aF ?aO ?aB ?aS ?aL ?_; (case aP => exact rfl); (case aB => exact zq19); (case aF => exact (fun k_ hk => .inr ⟨trivial, hk⟩)); (case aO => exact (by (with_reducible repeat (first | apply Kd.R_alloc | apply Kd.R_drewN | apply Kd.R_drew)); exact Kd.R_mono UU17.out (fun _ hk => .inl hk))); (case aS => exact zq24); (case aL => have := LMc14.out; omega); intro v206 w18 ho hb hg hat; rw [← Ny205.out] at ho; replace HB := mA (hb); replace HH17 := mA (Kd.H_grown (Kd.H_widen (by repeat (first | exact HH17.out | refine Kd.H_alloc ?_ _ | refine Kd.H_drewN ?_ _ | refine Kd.H_drew ?_))) hg (fun k_ e_ => .inl (UU17.out.1 k_ e_))); have HO207 := mA (ho); clear HO_3 UU17 HL204_0 ho hb hg hat; have p15 : 0 ≤ (x21_2 : Int) := sqd; have q15 : (x21_2 : Int) < ((x3_2.length : Int) : Int) := sqd; replace p15 := eq_true p15; replace q15 := eq_true q15; obtain ⟨Ao21, co21, eo21⟩ := Kd.R_slice HO207.out; subst eo21; obtain ⟨_, _, hraw19, _, _, hcc19, _⟩ := Kd.H_raw HH17.out (sqd) (by have h_ : (x21_2 : Int) < ((x3_2.length : Int) : Int) := sqd; first | exact h_ | (have e_ := (HN17.out); omega) | simpa using h_); obtain ⟨_, hfr19⟩ := Kd.H_at HH17.out (sqd) (by have h_ : (x21_2 : Int) < ((x3_2.length : Int) : Int) := sqd; first | exact h_ | (have e_ := (HN17.out); omega) | simpa using h_); have hx19_0 := hcc19 0 _ rfl; have hf19_0 := hfr19 0; (try simp only [Nat.add_zero] at hx19_0 hf19_0); (try rw [show ((Kd.slice 2 (Kd.int .i64))).sz = 1 from rfl, Nat.mul_one] at hx19_0); (try rw [show ((Kd.slice 2 (Kd.int .i64))).sz = 1 from rfl, Nat.mul_one] at hf19_0); have HP19 := Kd.S_seg0 HH17.out (sqd) (by have h_ : (x21_2 : Int) < ((x3_2.length : Int) : Int) := sqd; first | exact h_ | (have e_ := (HN17.out); omega) | simpa using h_) (seg := [.slice Ao21 y205.length co21]) (j := 0) (show 1 ≤ 1 from by decide) (x' := y205) (Kd.M_row HO207.out) (fun _ hk => hk); (try simp only [show ((Kd.slice 2 (Kd.int .i64))).sz = 1 from rfl, Nat.mul_one, Nat.add_zero] at HP19); clear hcc19 hfr19) | ((with_reducible refine gate_store (t := 22) (p := 35) rfl ?_); refine store_event (t := 22) (p := 35) (v := ?vo_w20) (w1 := (w18.setCell ⟨go17, (x21_2 : Int).toNat, none⟩ (.slice Ao21 y205.length co21))) ?hg ?ho ?hn ?hr ?_; (case ho => rfl); (case hg => rfl); (case hn => rfl); (case hr => exact zq11); intro w20 hw; have hg : w18.grownBy w20 (some go17) := (by rw [hw]; exact HP19.2); have hp_ : Kd.S (Kd.slice 2 (Kd.int .i64)) 22 w20 w.heap.size (fun _ => True) (.slice (some ⟨go17, 0, none⟩) x3_2.length co16) y208 := (by rw [hw, Ny208.out]; exact HP19.1); clear HP19; replace HB := mA ((by rw [hw]; exact below_set HB.out GB17.out : Below w.heap.size w w20)); have HO_3 := mA (hp_); clear HO207 HH17 hg hw hp_ hraw19))
     go_roundg k2
     case measure => have := HK1.out; have := HK2.out; omega
     case rel => exact ⟨(y208), (wrap64 (x21_2 + 1)), zq4, H', ⟨zq18 HK1 HK2⟩, ⟨zq5 HO_3⟩, ⟨zq0⟩⟩

-- told with its function values: function 111 (impl_IsDoubly_2)

/-! ### impl_IsDoubly_1: function 106 -/
def impl_IsDoubly_1.f (k : Nat) (l0 : List Int) (l1_0 : List (List Int)) : Option (Bool) := if (l0.length : Int) = (l1_0.length : Int) then ((impl_areWithin.f k l0 0 1000).bind fun t209 => (some (!t209))) else (some true)
theorem impl_IsDoubly_1.mono : ∀ a0 a1 k, LeO (impl_IsDoubly_1.f k a0 a1) (impl_IsDoubly_1.f (k + 1) a0 a1) := by
  intro a0 a1 k
  unfold impl_IsDoubly_1.f
  repeat' first | (with_reducible first | apply impl_areWithin.mono | exact LeO.refl _ | exact LeO.none _ | refine LeO.ite ?_ ?_ | refine LeO.bind ?_ (fun _ => ?_)) | apply impl_areWithin.mono | exact LeO.none _ | refine LeO.ite ?_ ?_ | refine LeO.bind ?_ (fun _ => ?_)
set_option maxHeartbeats 8000000 in
set_option maxRecDepth 100000 in
theorem impl_IsDoubly_1.calls (k : Nat) (A0 : Option Addr) (c0 : Nat) (l0 : List Int) (gv1_0_ : Nat) (A1_0 : Option Addr) (c1_0 : Nat) (l1_0 : List (List Int)) (r : Bool) (w : World) (hr0 : Kd.C (Kd.int .i64) w A0 l0.length l0) (hc0 : l0.length ≤ c0) (hbx1_0_ : w.heap[gv1_0_]? = some (.cells #[.slice A1_0 l1_0.length c1_0] 23 (0, 0))) (hr1_0 : Kd.C (Kd.slice 2 (Kd.int .i64)) w A1_0 l1_0.length l1_0) (hc1_0 : l1_0.length ≤ c1_0) (h : impl_IsDoubly_1.f k l0 l1_0 = some r) :
    Calls Try.prog 106 #[.slice A0 l0.length c0, .pointer (some ⟨gv1_0_, 0, none⟩)] w fun e w' => e = .returned (.bool r) ∧ Below w.heap.size w w' := by
 have HR0 := mA hr0; have HC0 := mA hc0; clear hr0 hc0; have HR1_0 := mA hr1_0; have HC1_0 := mA hc1_0; clear hr1_0 hc1_0; have BK46 := mA hbx1_0_; clear hbx1_0_; have HB := mA (Below.refl w.heap.size w); have H : (if (l0.length : Int) = (l1_0.length : Int) then ((impl_areWithin.f k l0 0 1000).bind fun t209 => (some (!t209))) else (some true)) = some r := h; clear h; refine sqC ((l0.length : Int) = (l1_0.length : Int)) (fun c3 => ?_) (fun c3 => ?_)
 ·rw [if_neg c3] at H; have c3b0 : ((l0.length : Int) == (l1_0.length : Int)) = false := beq_eq_false_iff_ne.mpr c3; have c3b1 : ((l0.length : Int) != (l1_0.length : Int)) = true := bne_iff_ne.mpr c3
  have c3b2 : (l0.length == l1_0.length) = false := by first | simpa using c3 | (simp at c3 ⊢; omega)
  obtain rfl := Option.some.inj H; have hcz7_0 := sqZ0 BK46; have hfz7_0 := blk_frozen BK46.out 0; go_enter Try.func106, Try.ntmps106; go_wp2; go_ret; exact ⟨zq7, zq2⟩
 rw [if_pos c3] at H; have c3b0 : ((l0.length : Int) == (l1_0.length : Int)) = true := beq_iff_eq.mpr c3; have c3b1 : ((l0.length : Int) != (l1_0.length : Int)) = false := bne_eq_false_iff_eq.mpr c3
 have c3b2 : (l0.length == l1_0.length) = true := by first | simpa using c3 | (simp at c3 ⊢; omega)
 clear c3; obtain ⟨t209, A4, H⟩ := sqB H; obtain rfl := Option.some.inj H; have hcz5_0 := sqZ0 BK46; have hfz5_0 := blk_frozen BK46.out 0; go_enter Try.func106, Try.ntmps106; go_wp2_with (first | (go_at_call 107; (with_reducible refine (impl_areWithin.calls k _ _ l0 0 1000 t209 _ ?s1 ?s2 A4.out).mono ?_); (case s1 => exact zq22 HR0); (case s2 => exact HC0.out); rintro e w6 ⟨rfl, hb⟩; replace BK46 := mA (blk_below (g := gv1_0_) (o := .cells #[.slice A1_0 l1_0.length c1_0] 23 (0, 0)) (zq1 BK46) hb); replace HB := mA (below_step zq2 hb); (try clear hb))); go_ret; exact ⟨zq7, zq2⟩

/-! ### slices_IndexFunc_int64_int64_impl_IsDoubly_1: function 118 -/
def slices_IndexFunc_int64_int64_impl_IsDoubly_1.l0 : Nat → List (List Int) → Int → Int → List (List Int) → Option (Int)
  | 0, _, _, _, _ => none
  | k + 1, x0, x7, x8, x47000 => if x8 < x7 then (if 0 ≤ x8 then (if x8 < (x0.length : Int) then ((impl_IsDoubly_1.f k (rd_L1 x0 x8) x47000).bind fun t211 => (if t211 = true then (some x8) else (slices_IndexFunc_int64_int64_impl_IsDoubly_1.l0 k x0 x7 (wrap64 (x8 + 1)) x47000))) else (none)) else (none)) else (some (-1))
def slices_IndexFunc_int64_int64_impl_IsDoubly_1.f (k : Nat) (l0 : List (List Int)) (l1_0 : List (List Int)) : Option (Int) := slices_IndexFunc_int64_int64_impl_IsDoubly_1.l0 k l0 (l0.length : Int) 0 l1_0
theorem slices_IndexFunc_int64_int64_impl_IsDoubly_1.mono_l : ∀ k, (∀ y0 y1 y2 y3, LeO (slices_IndexFunc_int64_int64_impl_IsDoubly_1.l0 k y0 y1 y2 y3) (slices_IndexFunc_int64_int64_impl_IsDoubly_1.l0 (k + 1) y0 y1 y2 y3))
  | 0 => fun _ _ _ _ r h => by simp [slices_IndexFunc_int64_int64_impl_IsDoubly_1.l0] at h
  | k + 1 => by
   have ih0 := slices_IndexFunc_int64_int64_impl_IsDoubly_1.mono_l k
   intros
   unfold slices_IndexFunc_int64_int64_impl_IsDoubly_1.l0
   all_goals repeat' first | (with_reducible first | apply ih0 | apply impl_IsDoubly_1.mono | exact LeO.refl _ | exact LeO.none _ | refine LeO.ite ?_ ?_ | refine LeO.bind ?_ (fun _ => ?_)) | apply ih0 | apply impl_IsDoubly_1.mono | exact LeO.none _ | refine LeO.ite ?_ ?_ | refine LeO.bind ?_ (fun _ => ?_)
theorem slices_IndexFunc_int64_int64_impl_IsDoubly_1.mono : ∀ a0 a1 k, LeO (slices_IndexFunc_int64_int64_impl_IsDoubly_1.f k a0 a1) (slices_IndexFunc_int64_int64_impl_IsDoubly_1.f (k + 1) a0 a1) := by
  intro a0 a1 k
  have ih0 := slices_IndexFunc_int64_int64_impl_IsDoubly_1.mono_l k
  unfold slices_IndexFunc_int64_int64_impl_IsDoubly_1.f
  repeat' first | (with_reducible first | apply ih0 | apply impl_IsDoubly_1.mono | exact LeO.refl _ | exact LeO.none _ | refine LeO.ite ?_ ?_ | refine LeO.bind ?_ (fun _ => ?_)) | apply ih0 | apply impl_IsDoubly_1.mono | exact LeO.none _ | refine LeO.ite ?_ ?_ | refine LeO.bind ?_ (fun _ => ?_)
set_option maxHeartbeats 8000000 in
set_option maxRecDepth 100000 in
theorem slices_IndexFunc_int64_int64_impl_IsDoubly_1.calls (k : Nat) (A0 : Option Addr) (c0 : Nat) (l0 : List (List Int)) (gv1_0_ : Nat) (A1_0 : Option Addr) (c1_0 : Nat) (l1_0 : List (List Int)) (r : Int) (w : World) (hr0 : Kd.C (Kd.slice 2 (Kd.int .i64)) w A0 l0.length l0) (hc0 : l0.length ≤ c0) (hbx1_0_ : w.heap[gv1_0_]? = some (.cells #[.slice A1_0 l1_0.length c1_0] 23 (0, 0))) (hr1_0 : Kd.C (Kd.slice 2 (Kd.int .i64)) w A1_0 l1_0.length l1_0) (hc1_0 : l1_0.length ≤ c1_0) (h : slices_IndexFunc_int64_int64_impl_IsDoubly_1.f k l0 l1_0 = some r) :
    Calls Try.prog 118 #[.slice A0 l0.length c0, .func (.func 106) #[] #[.pointer (some ⟨gv1_0_, 0, none⟩)]] w fun e w' => e = .returned (.int .i64 r) ∧ Below w.heap.size w w' := by
 have HR0 := mA hr0; have HC0 := mA hc0; clear hr0 hc0; have HR1_0 := mA hr1_0; have HC1_0 := mA hc1_0; clear hr1_0 hc1_0; have BK46 := mA hbx1_0_; clear hbx1_0_; have HB := mA (Below.refl w.heap.size w); have H : (slices_IndexFunc_int64_int64_impl_IsDoubly_1.l0 k l0 (l0.length : Int) 0 l1_0) = some r := h; clear h; have H' := mA H; clear H; go_enter Try.func118, Try.ntmps118; go_wp2; go_loopg [8] k (fun kq v8 w' => ∃ (x8_1 : Int), v8 = .int .i64 x8_1 ∧ Aside0 (slices_IndexFunc_int64_int64_impl_IsDoubly_1.l0 kq l0 (l0.length : Int) x8_1 l1_0 = some r) ∧ Aside0 (kq ≤ k) ∧ Aside0 (w'.heap[gv1_0_]? = some (.cells #[(.slice A1_0 l1_0.length c1_0)] 23 (0, 0))) ∧ Aside0 (Below w.heap.size w w'))
 case atStart => exact ⟨(0), zq4, H', ⟨Nat.le_refl _⟩, ⟨zq1 BK46⟩, ⟨zq2⟩⟩
 case round =>
  clear H'; obtain ⟨x8_1, rfl, HA, HK1, BK46, HB⟩ := hrel
  cases gk with
  | zero => exact absurd HA.out (by simp [slices_IndexFunc_int64_int64_impl_IsDoubly_1.l0])
  | succ k1 =>
   have H := HA.out; clear HA; simp only [slices_IndexFunc_int64_int64_impl_IsDoubly_1.l0] at H; refine sqC (x8_1 < (l0.length : Int)) (fun c3 => ?_) (fun c3 => ?_)
   ·rw [if_neg c3] at H; replace c3 := decide_eq_false c3; obtain rfl := Option.some.inj H; go_wp2; go_ret; exact ⟨zq7, zq2⟩
   rw [if_pos c3] at H; replace c3 := decide_eq_true c3; obtain ⟨c4, H⟩ := sqI H; have c4b0 : decide (0 ≤ x8_1) = true := decide_eq_true c4; clear c4; obtain ⟨c5, H⟩ := sqI H; replace c5 := decide_eq_true c5; obtain ⟨t211, A6, H⟩ := sqB H; by_cases c7 : t211 = true
   ·subst c7; rw [if_pos rfl] at H; obtain rfl := Option.some.inj H; have p210 : 0 ≤ (x8_1 : Int) := sqd; have q210 : x8_1 < (l0.length : Int) := sqd; obtain ⟨ad210, A210_0, c210_0, e210, hx210_0, hl210_0, hi210_0⟩ := at_L1 HR0.out x8_1 p210 q210
    cases e210
    replace hx210_0 := sqh HB hx210_0; have HR210_0 := mA hi210_0; have HC210_0 := mA hl210_0; clear hi210_0 hl210_0; replace p210 := eq_true p210; replace q210 := eq_true q210; go_wp2_with (first | (go_at_call 106; (with_reducible refine (impl_IsDoubly_1.calls k1 _ _ (rd_L1 l0 x8_1) gv1_0_ A1_0 c1_0 l1_0 true _ ?s1 ?s2 ?s3 ?s4 ?s5 A6.out).mono ?_); (case s1 => exact zq9 HR210_0); (case s2 => exact HC210_0.out); (case s3 => exact zq12 BK46); (case s4 => exact zq9 HR1_0); (case s5 => exact HC1_0.out); rintro e w8 ⟨rfl, hb⟩; replace BK46 := mA (blk_below (g := gv1_0_) (o := .cells #[.slice A1_0 l1_0.length c1_0] 23 (0, 0)) (zq1 BK46) hb); replace HB := mA (below_step zq2 hb); (try clear hb))); go_ret; exact ⟨zq7, zq2⟩
   replace c7 := Bool.eq_false_iff.mpr c7; subst c7; rw [if_neg (show ¬ (false = true) by decide)] at H; have H' := mA H; clear H; have p210 : 0 ≤ (x8_1 : Int) := sqd; have q210 : x8_1 < (l0.length : Int) := sqd; obtain ⟨ad210, A210_0, c210_0, e210, hx210_0, hl210_0, hi210_0⟩ := at_L1 HR0.out x8_1 p210 q210
   cases e210
   replace hx210_0 := sqh HB hx210_0; have HR210_0 := mA hi210_0; have HC210_0 := mA hl210_0; clear hi210_0 hl210_0; replace p210 := eq_true p210; replace q210 := eq_true q210; go_wp2_with (first | (go_at_call 106; (with_reducible refine (impl_IsDoubly_1.calls k1 _ _ (rd_L1 l0 x8_1) gv1_0_ A1_0 c1_0 l1_0 false _ ?s1 ?s2 ?s3 ?s4 ?s5 A6.out).mono ?_); (case s1 => exact zq9 HR210_0); (case s2 => exact HC210_0.out); (case s3 => exact zq12 BK46); (case s4 => exact zq9 HR1_0); (case s5 => exact HC1_0.out); rintro e w9 ⟨rfl, hb⟩; replace BK46 := mA (blk_below (g := gv1_0_) (o := .cells #[.slice A1_0 l1_0.length c1_0] 23 (0, 0)) (zq1 BK46) hb); replace HB := mA (below_step zq2 hb); (try clear hb))); go_roundg k1
   case measure => have := HK1.out; omega
   case rel => exact ⟨(wrap64 (x8_1 + 1)), zq4, H', ⟨by have := HK1.out; omega⟩, ⟨zq1 BK46⟩, ⟨zq2⟩⟩

/-! ### slices_ContainsFunc_int64_int64_impl_IsDoubly_1: function 78 -/
def slices_ContainsFunc_int64_int64_impl_IsDoubly_1.f (k : Nat) (l0 : List (List Int)) (l1_0 : List (List Int)) : Option (Bool) := (slices_IndexFunc_int64_int64_impl_IsDoubly_1.f k l0 l1_0).bind fun t212 => (some (decide (t212 ≥ 0)))
theorem slices_ContainsFunc_int64_int64_impl_IsDoubly_1.mono : ∀ a0 a1 k, LeO (slices_ContainsFunc_int64_int64_impl_IsDoubly_1.f k a0 a1) (slices_ContainsFunc_int64_int64_impl_IsDoubly_1.f (k + 1) a0 a1) := by
  intro a0 a1 k
  unfold slices_ContainsFunc_int64_int64_impl_IsDoubly_1.f
  repeat' first | (with_reducible first | apply slices_IndexFunc_int64_int64_impl_IsDoubly_1.mono | exact LeO.refl _ | exact LeO.none _ | refine LeO.ite ?_ ?_ | refine LeO.bind ?_ (fun _ => ?_)) | apply slices_IndexFunc_int64_int64_impl_IsDoubly_1.mono | exact LeO.none _ | refine LeO.ite ?_ ?_ | refine LeO.bind ?_ (fun _ => ?_)
set_option maxHeartbeats 8000000 in
set_option maxRecDepth 100000 in
theorem slices_ContainsFunc_int64_int64_impl_IsDoubly_1.calls (k : Nat) (A0 : Option Addr) (c0 : Nat) (l0 : List (List Int)) (gv1_0_ : Nat) (A1_0 : Option Addr) (c1_0 : Nat) (l1_0 : List (List Int)) (r : Bool) (w : World) (hr0 : Kd.C (Kd.slice 2 (Kd.int .i64)) w A0 l0.length l0) (hc0 : l0.length ≤ c0) (hbx1_0_ : w.heap[gv1_0_]? = some (.cells #[.slice A1_0 l1_0.length c1_0] 23 (0, 0))) (hr1_0 : Kd.C (Kd.slice 2 (Kd.int .i64)) w A1_0 l1_0.length l1_0) (hc1_0 : l1_0.length ≤ c1_0) (h : slices_ContainsFunc_int64_int64_impl_IsDoubly_1.f k l0 l1_0 = some r) :
    Calls Try.prog 78 #[.slice A0 l0.length c0, .func (.func 106) #[] #[.pointer (some ⟨gv1_0_, 0, none⟩)]] w fun e w' => e = .returned (.bool r) ∧ Below w.heap.size w w' := by
 have HR0 := mA hr0; have HC0 := mA hc0; clear hr0 hc0; have HR1_0 := mA hr1_0; have HC1_0 := mA hc1_0; clear hr1_0 hc1_0; have BK46 := mA hbx1_0_; clear hbx1_0_; have HB := mA (Below.refl w.heap.size w); have H : ((slices_IndexFunc_int64_int64_impl_IsDoubly_1.f k l0 l1_0).bind fun t212 => (some (decide (t212 ≥ 0)))) = some r := h; clear h; obtain ⟨t212, A3, H⟩ := sqB H; obtain rfl := Option.some.inj H; go_enter Try.func78, Try.ntmps78; go_wp2_with (first | (refine sqG 118 (some 7) Try.func118 #[.slice A0 l0.length c0, .func (.func 106) #[] #[.pointer (some ⟨gv1_0_, 0, none⟩)]] (h := ?_); (with_reducible refine (slices_IndexFunc_int64_int64_impl_IsDoubly_1.calls k _ _ l0 gv1_0_ A1_0 c1_0 l1_0 t212 _ ?s1 ?s2 ?s3 ?s4 ?s5 A3.out).mono ?_); (case s1 => exact zq22 HR0); (case s2 => exact HC0.out); (case s3 => exact zq12 BK46); (case s4 => exact zq22 HR1_0); (case s5 => exact HC1_0.out); rintro e w4 ⟨rfl, hb⟩; refine ⟨_, rfl, ?_⟩; replace BK46 := mA (blk_below (g := gv1_0_) (o := .cells #[.slice A1_0 l1_0.length c1_0] 23 (0, 0)) (zq1 BK46) hb); replace HB := mA (below_step zq2 hb); (try clear hb))); go_ret; exact ⟨zq7, zq2⟩

/-! ### impl_IsDoubly_2: function 111 -/
def impl_IsDoubly_2.f (a0 : Int) (a1_0 : Int) : Option (Bool) := some (a0 != a1_0)
set_option maxHeartbeats 8000000 in
set_option maxRecDepth 100000 in
theorem impl_IsDoubly_2.calls (a0 : Int) (gv1_0_ : Nat) (a1_0 : Int) (r : Bool) (w : World) (hbx1_0_ : w.heap[gv1_0_]? = some (.cells #[.int .i64 a1_0] 2 (0, 0))) (h : impl_IsDoubly_2.f a0 a1_0 = some r) :
    Calls Try.prog 111 #[.int .i64 a0, .pointer (some ⟨gv1_0_, 0, none⟩)] w fun e w' => e = .returned (.bool r) ∧ Below w.heap.size w w' := by
 have BK46 := mA hbx1_0_; clear hbx1_0_; have HB := mA (Below.refl w.heap.size w); have H : (some (a0 != a1_0)) = some r := h; clear h; obtain rfl := Option.some.inj H; have hcz3_0 := sqZ0 BK46; have hfz3_0 := blk_frozen BK46.out 0; go_enter Try.func111, Try.ntmps111; go_wp2; go_ret; exact ⟨zq7, zq2⟩

end Go.Proofs.Ytlhpejabdmejbaa.PFnExactPermutationMixture
