/- Written by this session's program (wip/tool/xprint.py) over the kit's printer. -/
import Derived.Test.YtlhpejabdmejbaaPFnMeansx0
import Derived.Test.YtlhpejabdmejbaaPFnMeansx4
namespace Go.Proofs.Ytlhpejabdmejbaa.PFnMeans
open Go.RowKit Go.Proofs.YtlhpejabdmejbaaW.PrintWords Go.Proofs.YtlhpejabdmejbaaW.PrintLast Go.Proofs.YtlhpejabdmejbaaW.PrintMore
attribute [local go_sem] max2_int min2_int max_two min_two max_three min_three max_four min_four   -- for this text's walks alone
set_option linter.unusedVariables false
set_option linter.unusedSimpArgs false

/-! ### impl_ValidValues: function 60 -/
def impl_ValidValues.f (k : Nat) (a0_0 : Int) (l0_1 : List Int) : Option (Bool) := (impl_within.f a0_0 1 1000).bind fun t178 => (if t178 = true then (if (l0_1.length : Int) ≤ 40 then ((impl_areWithin.f k l0_1 (-1000000) 1000000).bind fun t179 => (some t179)) else (some false)) else (some false))
theorem impl_ValidValues.mono : ∀ a0 a1 k, LeO (impl_ValidValues.f k a0 a1) (impl_ValidValues.f (k + 1) a0 a1) := by
  intro a0 a1 k
  unfold impl_ValidValues.f
  repeat' first | (with_reducible first | apply impl_areWithin.mono | exact LeO.refl _ | exact LeO.none _ | refine LeO.ite ?_ ?_ | refine LeO.bind ?_ (fun _ => ?_)) | apply impl_areWithin.mono | exact LeO.none _ | refine LeO.ite ?_ ?_ | refine LeO.bind ?_ (fun _ => ?_)
set_option maxHeartbeats 8000000 in
set_option maxRecDepth 100000 in
theorem impl_ValidValues.calls (k : Nat) (a0_0 : Int) (A0_1 : Option Addr) (c0_1 : Nat) (l0_1 : List Int) (r : Bool) (w : World) (hr0_1 : Kd.C (Kd.int .i64) w A0_1 l0_1.length l0_1) (hc0_1 : l0_1.length ≤ c0_1) (h : impl_ValidValues.f k a0_0 l0_1 = some r) :
    Calls Try.prog 60 #[.agg #[.int .i64 a0_0, .slice A0_1 l0_1.length c0_1]] w fun e w' => e = .returned (.bool r) ∧ Below w.heap.size w w' := by
 have hu43 := Try.underlying43; have HR0_1 := mA hr0_1; have HC0_1 := mA hc0_1; clear hr0_1 hc0_1; have HB := mA (Below.refl w.heap.size w); have H : ((impl_within.f a0_0 1 1000).bind fun t178 => (if t178 = true then (if (l0_1.length : Int) ≤ 40 then ((impl_areWithin.f k l0_1 (-1000000) 1000000).bind fun t179 => (some t179)) else (some false)) else (some false))) = some r := h; clear h; obtain ⟨t178, A2, H⟩ := sqB H; refine sqC (t178 = true) (fun c3 => ?_) (fun c3 => ?_)
 ·replace c3 := Bool.eq_false_iff.mpr c3; subst c3; rw [if_neg (show ¬ (false = true) by decide)] at H; obtain rfl := Option.some.inj H; go_enter Try.func60, Try.ntmps60; go_wp2_with (first | ((with_reducible refine gate_dst (N := 1) rfl ?_); (try (refine gate_guard (by rfl) ?_; dsimp only)); refine sqX 1 #[.int .i64 a0_0, .slice A0_1 l0_1.length c0_1] 43 ?_; intro gb177 hg w11 hbox hb; have BK177 := mA (hbox); have GW177 := mA ((zq18 : w.heap.size ≤ gb177)); have GE177 := mA ((zq18 : w.heap.size ≤ gb177)); replace HB := mA (below_step zq6 hb); clear hb hbox hg; have hcz12_0 := sqZ0 BK177; have hcz12_1 := sqZ1 BK177; have hfz12_0 := blk_frozen BK177.out 0; have hfz12_1 := blk_frozen BK177.out 1) | (refine sqG 68 (some 5) Try.func68 #[.int .i64 a0_0, .int .i64 1, .int .i64 1000] (h := ?_); (with_reducible refine (impl_within.calls a0_0 1 1000 false _ A2.out).mono ?_); rintro e w' ⟨rfl, ⟨nd, rfl⟩⟩; refine ⟨_, rfl, ?_⟩)); go_ret; exact ⟨zq7, zq1⟩
 subst c3; rw [if_pos rfl] at H; refine sqC ((l0_1.length : Int) ≤ 40) (fun c4 => ?_) (fun c4 => ?_)
 ·rw [if_neg c4] at H; have c4b0 := decide_eq_false c4; have c4b1 : decide (l0_1.length ≤ 40) = false := decide_eq_false (by omega); clear c4; obtain rfl := Option.some.inj H; go_enter Try.func60, Try.ntmps60; go_wp2_with (first | ((with_reducible refine gate_dst (N := 1) rfl ?_); (try (refine gate_guard (by rfl) ?_; dsimp only)); refine sqX 1 #[.int .i64 a0_0, .slice A0_1 l0_1.length c0_1] 43 ?_; intro gb177 hg w9 hbox hb; have BK177 := mA (hbox); have GW177 := mA ((zq18 : w.heap.size ≤ gb177)); have GE177 := mA ((zq18 : w.heap.size ≤ gb177)); replace HB := mA (below_step zq6 hb); clear hb hbox hg; have hcz10_0 := sqZ0 BK177; have hcz10_1 := sqZ1 BK177; have hfz10_0 := blk_frozen BK177.out 0; have hfz10_1 := blk_frozen BK177.out 1) | (refine sqG 68 (some 5) Try.func68 #[.int .i64 a0_0, .int .i64 1, .int .i64 1000] (h := ?_); (with_reducible refine (impl_within.calls a0_0 1 1000 true _ A2.out).mono ?_); rintro e w' ⟨rfl, ⟨nd, rfl⟩⟩; refine ⟨_, rfl, ?_⟩)); go_ret; exact ⟨zq7, zq1⟩
 rw [if_pos c4] at H; have c4b0 := decide_eq_true c4; have c4b1 : decide (l0_1.length ≤ 40) = true := decide_eq_true (by omega); clear c4; obtain ⟨t179, A5, H⟩ := sqB H; obtain rfl := Option.some.inj H; go_enter Try.func60, Try.ntmps60; go_wp2_with (first | ((with_reducible refine gate_dst (N := 1) rfl ?_); (try (refine gate_guard (by rfl) ?_; dsimp only)); refine sqX 1 #[.int .i64 a0_0, .slice A0_1 l0_1.length c0_1] 43 ?_; intro gb177 hg w6 hbox hb; have BK177 := mA (hbox); have GW177 := mA ((zq18 : w.heap.size ≤ gb177)); have GE177 := mA ((zq18 : w.heap.size ≤ gb177)); replace HB := mA (below_step zq6 hb); clear hb hbox hg; have hcz7_0 := sqZ0 BK177; have hcz7_1 := sqZ1 BK177; have hfz7_0 := blk_frozen BK177.out 0; have hfz7_1 := blk_frozen BK177.out 1) | (refine sqG 68 (some 5) Try.func68 #[.int .i64 a0_0, .int .i64 1, .int .i64 1000] (h := ?_); (with_reducible refine (impl_within.calls a0_0 1 1000 true _ A2.out).mono ?_); rintro e w' ⟨rfl, ⟨nd, rfl⟩⟩; refine ⟨_, rfl, ?_⟩) | (go_at_call 107; (with_reducible refine (impl_areWithin.calls k _ _ l0_1 (-1000000) 1000000 t179 _ ?s1 ?s2 A5.out).mono ?_); (case s1 => exact zq51 HR0_1); (case s2 => exact HC0_1.out); rintro e w8 ⟨rfl, hb⟩; replace BK177 := mA (blk_below (g := gb177) (o := .cells #[.int .i64 a0_0, .slice A0_1 l0_1.length c0_1] 43 (0, 0)) (zq0 BK177) hb); replace HB := mA (below_step zq1 hb); (try clear hb))); go_ret; exact ⟨zq7, zq1⟩

/-! ### impl_Mixture_totals: function 81 -/
mutual
def impl_Mixture_totals.l0 : Nat → List Int → List (List Int) → Int → Int → List Int → List (List Int) → Option (List Int)
  | 0, _, _, _, _, _, _ => none
  | k + 1, x3, x15, x16, x17, x181000, x181001 => if x17 < x16 then (if 0 ≤ x17 then (if x17 < (x15.length : Int) then (impl_Mixture_totals.l1 k x3 x17 x15 x16 x17 (rd_L1 x15 x17) ((rd_L1 x15 x17).length : Int) 0 x181000 x181001) else (none)) else (none)) else (some x3)
def impl_Mixture_totals.l1 : Nat → List Int → Int → List (List Int) → Int → Int → List Int → Int → Int → List Int → List (List Int) → Option (List Int)
  | 0, _, _, _, _, _, _, _, _, _, _ => none
  | k + 1, x3, x4, x15, x16, x17, x22, x23, x24, x181000, x181001 => if x24 < x23 then (if 0 ≤ x24 then (if x24 < (x22.length : Int) then (if x24 < (x3.length : Int) then (if 0 ≤ x4 then (if x4 < (x181000.length : Int) then (impl_Mixture_totals.l1 k (x3.set (x24 : Int).toNat (wrap64 ((rd x3 x24) + (wrap64 ((rd x181000 x4) * (rd x22 x24)))))) x4 x15 x16 x17 x22 x23 (wrap64 (x24 + 1)) x181000 x181001) else (none)) else (none)) else (none)) else (none)) else (none)) else (impl_Mixture_totals.l0 k x3 x15 x16 (wrap64 (x17 + 1)) x181000 x181001)
end
def impl_Mixture_totals.f (k : Nat) (l0_0 : List Int) (l0_1 : List (List Int)) : Option (List Int) := if 0 < (l0_1.length : Int) then (if 0 ≤ ((rd_L1 l0_1 0).length : Int) then (if (((rd_L1 l0_1 0).length : Int) : Int).toNat ≤ 35184372088832 then (impl_Mixture_totals.l0 k (List.replicate (((rd_L1 l0_1 0).length : Int) : Int).toNat 0) l0_1 (l0_1.length : Int) 0 l0_0 l0_1) else (none)) else (none)) else (none)
theorem impl_Mixture_totals.mono_l : ∀ k, (∀ y0 y1 y2 y3 y4 y5, LeO (impl_Mixture_totals.l0 k y0 y1 y2 y3 y4 y5) (impl_Mixture_totals.l0 (k + 1) y0 y1 y2 y3 y4 y5)) ∧ (∀ y0 y1 y2 y3 y4 y5 y6 y7 y8 y9, LeO (impl_Mixture_totals.l1 k y0 y1 y2 y3 y4 y5 y6 y7 y8 y9) (impl_Mixture_totals.l1 (k + 1) y0 y1 y2 y3 y4 y5 y6 y7 y8 y9))
  | 0 => ⟨fun _ _ _ _ _ _ r h => by simp [impl_Mixture_totals.l0] at h, fun _ _ _ _ _ _ _ _ _ _ r h => by simp [impl_Mixture_totals.l1] at h⟩
  | k + 1 => by
   obtain ⟨ih0, ih1⟩ := impl_Mixture_totals.mono_l k
   refine ⟨?_, ?_⟩ <;> intros
   all_goals first | unfold impl_Mixture_totals.l0 | unfold impl_Mixture_totals.l1
   all_goals repeat' first | (with_reducible first | apply ih0 | apply ih1 | exact LeO.refl _ | exact LeO.none _ | refine LeO.ite ?_ ?_ | refine LeO.bind ?_ (fun _ => ?_)) | apply ih0 | apply ih1 | exact LeO.none _ | refine LeO.ite ?_ ?_ | refine LeO.bind ?_ (fun _ => ?_)
theorem impl_Mixture_totals.mono : ∀ a0 a1 k, LeO (impl_Mixture_totals.f k a0 a1) (impl_Mixture_totals.f (k + 1) a0 a1) := by
  intro a0 a1 k
  obtain ⟨ih0, ih1⟩ := impl_Mixture_totals.mono_l k
  unfold impl_Mixture_totals.f
  repeat' first | (with_reducible first | apply ih0 | apply ih1 | exact LeO.refl _ | exact LeO.none _ | refine LeO.ite ?_ ?_ | refine LeO.bind ?_ (fun _ => ?_)) | apply ih0 | apply ih1 | exact LeO.none _ | refine LeO.ite ?_ ?_ | refine LeO.bind ?_ (fun _ => ?_)
def impl_Mixture_totals.T8 : Bool × List (List Nat × List Nat) := (true, [([], []), ([], []), ([0, 1], [0, 1]), ([2], [2]), ([], []), ([4], [4]), ([], []), ([5, 6], [5, 6]), ([7], [7]), ([], []), ([8, 9], [8, 9]), ([3, 10], [3, 10]), ([0, 1, 0, 1, 2, 3, 4, 5, 6, 7, 8, 9, 10, 11], [0, 1]), ([12, 11, 0, 1, 2, 3, 4, 5, 6, 7, 8, 9, 10, 11], [11, 12])])
def impl_Mixture_totals.B8 : List Nat := [0, 0, 3, 7, 0, 16, 0, 112, 240, 0, 1008, 2047, 4095, 8191]
theorem impl_Mixture_totals.tab8 : rtab .any (opsOf Try.f81 8) = impl_Mixture_totals.T8 := by kernel_rfl
theorem impl_Mixture_totals.bits8 : waitsOk impl_Mixture_totals.T8.2 impl_Mixture_totals.B8 = true := by kernel_rfl
set_option maxHeartbeats 8000000 in
set_option maxRecDepth 100000 in
theorem impl_Mixture_totals.calls (k : Nat) (A0_0 : Option Addr) (c0_0 : Nat) (l0_0 : List Int) (A0_1 : Option Addr) (c0_1 : Nat) (l0_1 : List (List Int)) (r : List Int) (w : World) (hr0_0 : Kd.C (Kd.int .i64) w A0_0 l0_0.length l0_0) (hc0_0 : l0_0.length ≤ c0_0) (hr0_1 : Kd.C (Kd.slice 2 (Kd.int .i64)) w A0_1 l0_1.length l0_1) (hc0_1 : l0_1.length ≤ c0_1) (h : impl_Mixture_totals.f k l0_0 l0_1 = some r) :
    Calls Try.prog 81 #[.agg #[.slice A0_0 l0_0.length c0_0, .slice A0_1 l0_1.length c0_1]] w fun e w' => ∃ v0_ : Value, e = .returned (v0_) ∧ Kd.R (Kd.int .i64) 2 w' w.heap.size (fun _ => True) v0_ r ∧ Below w.heap.size w w' := by
 have hu29 := Try.underlying29; have HR0_0 := mA hr0_0; have HC0_0 := mA hc0_0; clear hr0_0 hc0_0; have HR0_1 := mA hr0_1; have HC0_1 := mA hc0_1; clear hr0_1 hc0_1; have HB := mA (Below.refl w.heap.size w); have H : (if 0 < (l0_1.length : Int) then (if 0 ≤ ((rd_L1 l0_1 0).length : Int) then (if (((rd_L1 l0_1 0).length : Int) : Int).toNat ≤ 35184372088832 then (impl_Mixture_totals.l0 k (List.replicate (((rd_L1 l0_1 0).length : Int) : Int).toNat 0) l0_1 (l0_1.length : Int) 0 l0_0 l0_1) else (none)) else (none)) else (none)) = some r := h; clear h; obtain ⟨c2, H⟩ := sqI H; have c2b0 := decide_eq_true c2; have c2b1 : decide (0 < l0_1.length) = true := decide_eq_true (by omega); clear c2; obtain ⟨c3, H⟩ := sqI H; have c3b0 := eq_true c3; have c3b1 := decide_eq_true c3; clear c3; obtain ⟨c4, H⟩ := sqI H; have c4b0 := eq_true c4; have c4b1 := decide_eq_true c4; clear c4; obtain ⟨y182, hy182⟩ : ∃ y_ : List Int, y_ = (List.replicate (((rd_L1 l0_1 0).length : Int) : Int).toNat 0) := ⟨_, rfl⟩
 replace H : (impl_Mixture_totals.l0 k y182 l0_1 (l0_1.length : Int) 0 l0_0 l0_1) = some r := by first | (rw [hy182]; with_reducible exact H) | (have H2_ := (Option.bind_some _ _).symm.trans H; rw [hy182]; with_reducible exact H2_) | (have H2_ := (Option.bind_some _ _).symm.trans H; with_reducible exact H2_) | with_reducible exact H | (rw [hy182]; exact H) | exact H
 have Ny182 := mA hy182; clear hy182; have H' := mA H; clear H; go_enter Try.func81, Try.ntmps81; go_wp2_with (first | (refine sqX 1 #[.slice A0_0 l0_0.length c0_0, .slice A0_1 l0_1.length c0_1] 29 ?_; intro gb180 hg w5 hbox hb; have BK180 := mA (hbox); have GW180 := mA ((zq18 : w.heap.size ≤ gb180)); have GE180 := mA ((zq18 : w.heap.size ≤ gb180)); replace HB := mA (below_step zq6 hb); clear hb hbox hg; have hcz6_0 := sqZ0 BK180; have hcz6_1 := sqZ1 BK180; have hfz6_0 := blk_frozen BK180.out 0; have hfz6_1 := blk_frozen BK180.out 1; have p181 : 0 ≤ (0 : Int) := (by omega); have q181 : 0 < (l0_1.length : Int) := sqd; obtain ⟨ad181, A181_0, c181_0, e181, hx181_0, hl181_0, hi181_0⟩ := at_L1 HR0_1.out 0 p181 q181; cases e181; have qi181 : (0 < l0_1.length) = True := eq_true (by omega); (try rw [show ((0 : Int)).toNat = 0 from rfl] at hx181_0); (try rw [Addr.add_zero'] at hx181_0); replace hx181_0 := sqh HB hx181_0; have HR181_0 := mA hi181_0; have HC181_0 := mA hl181_0; clear hi181_0 hl181_0; replace p181 := eq_true p181; replace q181 := eq_true q181) | ((with_reducible refine gate_dst (N := 13) rfl ?_); refine Kd.R_make (Kd.int .i64) _ 2 rfl (N := 13) rfl 22 _ _ rfl ((rd_L1 l0_1 0).length : Int) rfl rfl Try.underlying22 (.int .i64 0) 8 info2 rfl (by decide) (by omega) 0 (ok := fun _ => True) (okp := fun _ => True) rfl (fun _ hk => hk) trivial (sqd) (Nat.le_trans (Nat.mul_le_mul_right _ (sqd : ((rd_L1 l0_1 0).length : Int).toNat ≤ 35184372088832)) (by omega)) (Below.refl _ _) (Nat.le_refl _) ?_; intro v183 w7 ho8 hb hg_ hnew_; clear hg_ hnew_; (first | rw [← Ny182.out] at ho8 | (simp only [Int.reduceToNat] at ho8; rw [← Ny182.out] at ho8)); have HO184 := mA (Kd.R_lower ho8 (below_size zq1)); replace BK180 := mA (blk_below (g := gb180) (o := .cells #[.slice A0_0 l0_0.length c0_0, .slice (some ad181) l0_1.length c0_1] 29 (0, 0)) (zq0 BK180) hb); replace HB := mA (below_step zq1 hb); clear hb ho8; have hcz9_0 := sqZ0 BK180; have hcz9_1 := sqZ1 BK180; have hfz9_0 := blk_frozen BK180.out 0; have hfz9_1 := blk_frozen BK180.out 1)); go_loopg [17] k (fun kq v17 w' => ∃ (x3_1 : List Int) (x17_1 : Int), v17 = .int .i64 x17_1 ∧ Aside0 (impl_Mixture_totals.l0 kq x3_1 l0_1 (l0_1.length : Int) x17_1 l0_0 l0_1 = some r) ∧ Aside0 (kq ≤ k) ∧ Aside0 (Kd.R (Kd.int .i64) 2 w' w.heap.size (fun _ => True) v183 x3_1) ∧ Aside0 (w'.heap[gb180]? = some (.cells #[(.slice A0_0 l0_0.length c0_0), (.slice (some ad181) l0_1.length c0_1)] 29 (0, 0))) ∧ Aside0 (Below w.heap.size w w'))
 case atStart => exact ⟨(y182), (0), zq3, H', ⟨Nat.le_refl _⟩, ⟨zq2 HO184⟩, ⟨zq0 BK180⟩, ⟨zq1⟩⟩
 case round =>
  clear H'; (try clear c2); (try clear c2b0); (try clear c2b1); (try clear c3); (try clear c3b0); (try clear c3b1); (try clear c4); (try clear c4b0); (try clear c4b1); (try clear hcz6_0); (try clear hcz6_1); (try clear hcz9_0); (try clear hcz9_1); (try clear hfz6_0); (try clear hfz6_1); (try clear hfz9_0); (try clear hfz9_1); (try clear hx181_0); (try clear p181); (try clear q181); obtain ⟨x3_1, x17_1, rfl, HA, HK1, HO_3, BK180, HB⟩ := hrel
  cases gk with
  | zero => exact absurd HA.out (by simp [impl_Mixture_totals.l0])
  | succ k1 =>
   have H := HA.out; clear HA; simp only [impl_Mixture_totals.l0] at H; refine sqC (x17_1 < (l0_1.length : Int)) (fun c10 => ?_) (fun c10 => ?_)
   ·rw [if_neg c10] at H; replace c10 := decide_eq_false c10; obtain rfl := Option.some.inj H; go_wp2; go_ret; exact ⟨_, zq7, zq2 HO_3, zq1⟩
   rw [if_pos c10] at H; replace c10 := decide_eq_true c10; obtain ⟨c11, H⟩ := sqI H; replace c11 := decide_eq_true c11; obtain ⟨c12, H⟩ := sqI H; replace c12 := decide_eq_true c12; have H' := mA H; clear H; have p185 : 0 ≤ (x17_1 : Int) := sqd; have q185 : x17_1 < (l0_1.length : Int) := sqd; obtain ⟨ad185, A185_0, c185_0, e185, hx185_0, hl185_0, hi185_0⟩ := at_L1 HR0_1.out x17_1 p185 q185; obtain rfl : ad181 = ad185 := (by injection e185); replace hx185_0 := sqh HB hx185_0; have HR185_0 := mA hi185_0; have HC185_0 := mA hl185_0; clear hi185_0 hl185_0; replace p185 := eq_true p185; replace q185 := eq_true q185; go_wp2; go_loopg [24] k1 (fun kq v24 w' => ∃ (x3_2 : List Int) (x24_2 : Int), v24 = .int .i64 x24_2 ∧ Aside0 (impl_Mixture_totals.l1 kq x3_2 x17_1 l0_1 (l0_1.length : Int) x17_1 (rd_L1 l0_1 x17_1) ((rd_L1 l0_1 x17_1).length : Int) x24_2 l0_0 l0_1 = some r) ∧ Aside0 (kq ≤ k1) ∧ Aside0 (Kd.R (Kd.int .i64) 2 w' w.heap.size (fun _ => True) v183 x3_2) ∧ Aside0 (w'.heap[gb180]? = some (.cells #[(.slice A0_0 l0_0.length c0_0), (.slice (some ad181) l0_1.length c0_1)] 29 (0, 0))) ∧ Aside0 (Below w.heap.size w w'))
   case atStart => exact ⟨(x3_1), (0), zq3, H', ⟨Nat.le_refl _⟩, ⟨zq2 HO_3⟩, ⟨zq0 BK180⟩, ⟨zq1⟩⟩
   case round =>
    clear H'; (try clear c2); (try clear c2b0); (try clear c2b1); (try clear c3); (try clear c3b0); (try clear c3b1); (try clear c4); (try clear c4b0); (try clear c4b1); (try clear c10); (try clear c10b0); (try clear c11); (try clear c11b0); (try clear c12); (try clear c12b0); (try clear hcz6_0); (try clear hcz6_1); (try clear hcz9_0); (try clear hcz9_1); (try clear hfz6_0); (try clear hfz6_1); (try clear hfz9_0); (try clear hfz9_1); (try clear hx181_0); (try clear hx185_0); (try clear p181); (try clear p185); (try clear q181); (try clear q185); obtain ⟨x3_2, x24_2, rfl, HA, HK2, HO_3, BK180, HB⟩ := hrel
    cases gk with
    | zero => exact absurd HA.out (by simp [impl_Mixture_totals.l1])
    | succ k2 =>
     have H := HA.out; clear HA; simp only [impl_Mixture_totals.l1] at H; refine sqC (x24_2 < ((rd_L1 l0_1 x17_1).length : Int)) (fun c13 => ?_) (fun c13 => ?_)
     ·rw [if_neg c13] at H; replace c13 := decide_eq_false c13; have H' := mA H; clear H; go_wp2; go_roundg k2
      case measure => have := HK1.out; have := HK2.out; omega
      case rel => exact ⟨(x3_2), (wrap64 (x17_1 + 1)), zq3, H', ⟨zq28 HK1 HK2⟩, ⟨zq2 HO_3⟩, ⟨zq0 BK180⟩, ⟨zq1⟩⟩
     rw [if_pos c13] at H; replace c13 := decide_eq_true c13; obtain ⟨c14, H⟩ := sqI H; replace c14 := decide_eq_true c14; obtain ⟨c15, H⟩ := sqI H; replace c15 := decide_eq_true c15; obtain ⟨c16, H⟩ := sqI H; replace c16 := decide_eq_true c16; obtain ⟨c17, H⟩ := sqI H; replace c17 := decide_eq_true c17; obtain ⟨c18, H⟩ := sqI H; replace c18 := decide_eq_true c18; obtain ⟨y189, hy189⟩ : ∃ y_ : List Int, y_ = (x3_2.set (x24_2 : Int).toNat (wrap64 ((rd x3_2 x24_2) + (wrap64 ((rd l0_0 x17_1) * (rd (rd_L1 l0_1 x17_1) x24_2)))))) := ⟨_, rfl⟩
     replace H : (impl_Mixture_totals.l1 k2 y189 x17_1 l0_1 (l0_1.length : Int) x17_1 (rd_L1 l0_1 x17_1) ((rd_L1 l0_1 x17_1).length : Int) (wrap64 (x24_2 + 1)) l0_0 l0_1) = some r := by first | (rw [hy189]; with_reducible exact H) | (have H2_ := (Option.bind_some _ _).symm.trans H; rw [hy189]; with_reducible exact H2_) | (have H2_ := (Option.bind_some _ _).symm.trans H; with_reducible exact H2_) | with_reducible exact H | (rw [hy189]; exact H) | exact H
     have Ny189 := mA hy189; clear hy189; have H' := mA H; clear H; have p186 : 0 ≤ (x24_2 : Int) := sqd; have q186 : x24_2 < ((rd_L1 l0_1 x17_1).length : Int) := sqd; obtain ⟨ad186, e186, hx186_0⟩ := Kd.at_int HR185_0.out x24_2 p186 q186
     cases e186
     replace hx186_0 := sqh HB hx186_0; replace p186 := eq_true p186; replace q186 := eq_true q186; (try go_wp2); replace HO_3 := mA (Kd.R_drew HO_3.out); replace BK180 := mA (blk_drew BK180.out); replace HB := mA (below_drew1 HB.out); obtain ⟨Ao21, co21, eo21⟩ := Kd.R_slice HO_3.out; (first | subst eo21 | (injection eo21 with f1_ f2_ f3_; have f4_ := f1_.symm; have f5_ := f3_.symm; clear f1_ f2_ f3_; subst f4_; subst f5_)); have p187 : 0 ≤ (x24_2 : Int) := sqd; have q187 : x24_2 < (x3_2.length : Int) := sqd; obtain ⟨ad187, e187, hx187_0⟩ := Kd.at_int (Kd.R_reads' HO_3.out).2.2 x24_2 p187 q187
     cases e187
     replace p187 := eq_true p187; replace q187 := eq_true q187; have p188 : 0 ≤ (x17_1 : Int) := sqd; have q188 : x17_1 < (l0_0.length : Int) := sqd; obtain ⟨ad188, e188, hx188_0⟩ := Kd.at_int HR0_0.out x17_1 p188 q188; have hw188_0 := hx188_0
     cases e188
     replace hx188_0 := sqh HB hx188_0; replace p188 := eq_true p188; replace q188 := eq_true q188; have p19 : 0 ≤ (x24_2 : Int) := sqd; have q19 : (x24_2 : Int) < ((x3_2.length : Int) : Int) := sqd; obtain ⟨go19, co19, eo19, gb19, gl19, cl19, HG19⟩ := Kd.R_form HO_3.out (by omega); (first | cases eo19 | (injection eo19 with ea_ en_ ec_; (first | subst ea_ | (injection ea_ with ea_; subst ea_)); subst ec_; clear en_)); have GB19 := mA gb19; have GG19 := mA HG19; clear gb19 gl19 HG19; (first | simp only [add_plain] at hx187_0 | skip); obtain ⟨hx19_0, hf19_0⟩ := Kd.R_celln 0 HO_3.out (x24_2 : Int) p19 q19; replace p19 := eq_true p19; replace q19 := eq_true q19; have HP22 := Kd.R_putn HO_3.out (x24_2 : Int) (wrap64 ((rd x3_2 x24_2) + (wrap64 ((rd l0_0 x17_1) * (rd (rd_L1 l0_1 x17_1) x24_2))))); rw [← Ny189.out] at HP22; have HQ22 := mA HP22; clear HP22; refine start_ (n := 14) (S := fun w' => w'.cell? ⟨gb180, 0, none⟩ = some (.slice (some ad188) l0_0.length c0_0) ∧ w'.cell? ⟨gb180, 1, none⟩ = some (.slice (some ad181) l0_1.length c0_1) ∧ w'.cell? ⟨go19, (x24_2).toNat, none⟩ = some (.int .i64 (rd x3_2 x24_2)) ∧ w'.cell? (ad188.add (x17_1).toNat) = some (.int .i64 (rd l0_0 x17_1))) (ds := [13]) #[false, false, false, false, false, false, false, false, false, false, false, false, false, false] (by kernel_rfl) rfl rfl ⟨(blk_cell BK180.out 0).trans rfl, (blk_cell BK180.out 1).trans rfl, hx187_0, ((HB.out.cell (World.block_lt_of_cell? w _ hw188_0)).trans hw188_0)⟩ (fun hHeld => ?_); refine with_tabW impl_Mixture_totals.tab8 impl_Mixture_totals.bits8 (fun HT_ HW_ => ?_); generalize wr.drew = w20 at HO_3 BK180 HB GG19 HQ22 hf19_0 hx187_0 hx188_0 hx19_0 hHeld ⊢; refine sqr0 0 (some 29) ?_; refine sqr0 1 (some 30) ?_; refine sqr0 2 (some 31) ?_; refine sqr0 4 (some 33) ?_; refine sqr0 6 (some 35) ?_; refine sqr0 9 (some 38) ?_; refine sqr7 3 (some 32) ?_; refine sqr7 5 (some 34) ?_; refine sqr0 7 (some 36) ?_; refine sqr7 8 (some 37) ?_; refine sqr0 10 (some 39) ?_; refine sqr0 11 (some 40) ?_; refine sqr0 12 (some 41) ?_; refine last_ (i := 13) (N := none) #[true, true, true, true, true, true, true, true, true, true, true, true, true, true] rfl rfl (one_of HT_.out (by kernel_rfl)) (by decide) (fun K hK => ?_); refine skip_ (w1 := ?_) (by rfl) rfl ?_ ?_; rotate_left
     ·go_simp; rfl
     refine hK.out _ _ ?_; clear hK K; refine done_ (done_of HT_.out (by kernel_rfl)) ?_; (try go_wp2); go_roundg k2
     case measure => have := HK1.out; have := HK2.out; omega
     case rel => exact ⟨(y189), (wrap64 (x24_2 + 1)), zq3, H', ⟨zq28 HK1 HK2⟩, ⟨zq2 HQ22⟩, ⟨zq64 HO_3 BK180⟩, ⟨zq65 GB19⟩⟩

/-! ### impl_divisor: function 83 -/
def impl_divisor.l0 : Nat → Int → Int → Option (Int)
  | 0, _, _ => none
  | k + 1, x0, x1 => if x1 = 0 then (some (mx x0 (wrap64 (-x0)))) else (impl_divisor.l0 k x1 (Int.tmod x0 x1))
def impl_divisor.f (k : Nat) (a0 : Int) (a1 : Int) : Option (Int) := impl_divisor.l0 k a0 a1
theorem impl_divisor.mono_l : ∀ k, (∀ y0 y1, LeO (impl_divisor.l0 k y0 y1) (impl_divisor.l0 (k + 1) y0 y1))
  | 0 => fun _ _ r h => by simp [impl_divisor.l0] at h
  | k + 1 => by
   have ih0 := impl_divisor.mono_l k
   intros
   unfold impl_divisor.l0
   all_goals repeat' first | (with_reducible first | apply ih0 | exact LeO.refl _ | exact LeO.none _ | refine LeO.ite ?_ ?_ | refine LeO.bind ?_ (fun _ => ?_)) | apply ih0 | exact LeO.none _ | refine LeO.ite ?_ ?_ | refine LeO.bind ?_ (fun _ => ?_)
theorem impl_divisor.mono : ∀ a0 a1 k, LeO (impl_divisor.f k a0 a1) (impl_divisor.f (k + 1) a0 a1) := by
  intro a0 a1 k
  have ih0 := impl_divisor.mono_l k
  unfold impl_divisor.f
  repeat' first | (with_reducible first | apply ih0 | exact LeO.refl _ | exact LeO.none _ | refine LeO.ite ?_ ?_ | refine LeO.bind ?_ (fun _ => ?_)) | apply ih0 | exact LeO.none _ | refine LeO.ite ?_ ?_ | refine LeO.bind ?_ (fun _ => ?_)
set_option maxHeartbeats 8000000 in
set_option maxRecDepth 100000 in
theorem impl_divisor.calls (k : Nat) (a0 : Int) (a1 : Int) (r : Int) (w : World) (h : impl_divisor.f k a0 a1 = some r) :
    Calls Try.prog 83 #[.int .i64 a0, .int .i64 a1] w fun e w' => e = .returned (.int .i64 r) ∧ Below w.heap.size w w' := by
 have HB := mA (Below.refl w.heap.size w); have H : (impl_divisor.l0 k a0 a1) = some r := h; clear h; have H' := mA H; clear H; go_enter Try.func83, Try.ntmps83; go_wp2
 repeat (go_quiet (fail); try go_wp2)
 go_loopg [0, 1] k (fun kq v0 v1 w' => ∃ (x0_1 : Int) (x1_1 : Int), v0 = .int .i64 x0_1 ∧ v1 = .int .i64 x1_1 ∧ Aside0 (impl_divisor.l0 kq x0_1 x1_1 = some r) ∧ Aside0 (kq ≤ k) ∧ Aside0 (Below w.heap.size w w'))
 case atStart => exact ⟨(a0), (a1), zq3, zq3, H', ⟨Nat.le_refl _⟩, ⟨zq6⟩⟩
 case round =>
  clear H'; obtain ⟨x0_1, x1_1, rfl, rfl, HA, HK1, HB⟩ := hrel
  cases gk with
  | zero => exact absurd HA.out (by simp [impl_divisor.l0])
  | succ k1 =>
   have H := HA.out; clear HA; simp only [impl_divisor.l0] at H; refine sqC (x1_1 = 0) (fun c3 => ?_) (fun c3 => ?_)
   ·rw [if_neg c3] at H; have c3b0 : (x1_1 == 0) = false := beq_eq_false_iff_ne.mpr c3; have c3b1 : (x1_1 != 0) = true := bne_iff_ne.mpr c3; have H' := mA H; clear H; go_wp2
    repeat (go_quiet (fail); try go_wp2)
    go_roundg k1
    case measure => have := HK1.out; omega
    case rel => exact ⟨(x1_1), (Int.tmod x0_1 x1_1), zq3, zq3, H', ⟨zq22 HK1⟩, ⟨zq6⟩⟩
   rw [if_pos c3] at H; have c3b0 : (x1_1 == 0) = true := beq_iff_eq.mpr c3; have c3b1 : (x1_1 != 0) = false := bne_eq_false_iff_eq.mpr c3; clear c3; obtain ⟨ji4, hji4⟩ : ∃ j_ : Int, (mx x0_1 (wrap64 (-x0_1))) = j_ := ⟨_, rfl⟩
   replace H : (some ji4) = some r := by first | (rw [hji4] at H; exact H) | (simp only [hji4] at H ⊢; exact H)
   have hji4_ : (if x0_1 < (wrap64 (-x0_1)) then (wrap64 (-x0_1)) else x0_1) = ji4 := hji4; obtain rfl := Option.some.inj H; go_wp2
   repeat (go_quiet (fail); try go_wp2)
   go_ret; exact ⟨by first | rfl | (simp [errW_none, errW_some] <;> rfl) | (simp only [← hji4]; first | rfl | (simp [errW_none, errW_some] <;> rfl)) | (simp [*, errW_none, errW_some] <;> rfl), zq6⟩

end Go.Proofs.Ytlhpejabdmejbaa.PFnMeans
