/- Written by this session's program (wip/tool/xprint.py) over the kit's printer. -/
import Derived.Test.YtlhpejabdmejbaaPFnExactIsMixtureOfx0
namespace Go.Proofs.Ytlhpejabdmejbaa.PFnExactIsMixtureOf
open Go.RowKit Go.Proofs.YtlhpejabdmejbaaW.PrintWords Go.Proofs.YtlhpejabdmejbaaW.PrintLast Go.Proofs.YtlhpejabdmejbaaW.PrintMore
attribute [local go_sem] max2_int min2_int max_two min_two max_three min_three max_four min_four   -- for this text's walks alone
set_option linter.unusedVariables false
set_option linter.unusedSimpArgs false

/-! ### spec_l06Sums: function 76 -/
mutual
def spec_l06Sums.l0 : Nat → List Int → Int → List Int → List (List Int) → Option (List Int)
  | 0, _, _, _, _ => none
  | k + 1, x3, x4, x41000, x41001 => if x4 < (x41001.length : Int) then (spec_l06Sums.l1 k x3 x4 0 x41000 x41001) else (some x3)
def spec_l06Sums.l1 : Nat → List Int → Int → Int → List Int → List (List Int) → Option (List Int)
  | 0, _, _, _, _, _ => none
  | k + 1, x3, x4, x5, x41000, x41001 => if x5 < (x3.length : Int) then (if 0 ≤ x5 then (if 0 ≤ x4 then (if x4 < (x41000.length : Int) then (if x4 < (x41001.length : Int) then (if x5 < ((rd_L1 x41001 x4).length : Int) then (spec_l06Sums.l1 k (x3.set (x5 : Int).toNat (wrap64 ((rd x3 x5) + (wrap64 ((rd x41000 x4) * (rd (rd_L1 x41001 x4) x5)))))) x4 (wrap64 (x5 + 1)) x41000 x41001) else (none)) else (none)) else (none)) else (none)) else (none)) else (spec_l06Sums.l0 k x3 (wrap64 (x4 + 1)) x41000 x41001)
end
def spec_l06Sums.f (k : Nat) (l0_0 : List Int) (l0_1 : List (List Int)) : Option (List Int) := if 0 < (l0_1.length : Int) then (if 0 ≤ ((rd_L1 l0_1 0).length : Int) then (if (((rd_L1 l0_1 0).length : Int) : Int).toNat ≤ 35184372088832 then (spec_l06Sums.l0 k (List.replicate (((rd_L1 l0_1 0).length : Int) : Int).toNat 0) 0 l0_0 l0_1) else (none)) else (none)) else (none)
theorem spec_l06Sums.mono_l : ∀ k, (∀ y0 y1 y2 y3, LeO (spec_l06Sums.l0 k y0 y1 y2 y3) (spec_l06Sums.l0 (k + 1) y0 y1 y2 y3)) ∧ (∀ y0 y1 y2 y3 y4, LeO (spec_l06Sums.l1 k y0 y1 y2 y3 y4) (spec_l06Sums.l1 (k + 1) y0 y1 y2 y3 y4))
  | 0 => ⟨fun _ _ _ _ r h => by simp [spec_l06Sums.l0] at h, fun _ _ _ _ _ r h => by simp [spec_l06Sums.l1] at h⟩
  | k + 1 => by
   obtain ⟨ih0, ih1⟩ := spec_l06Sums.mono_l k
   refine ⟨?_, ?_⟩ <;> intros
   all_goals first | unfold spec_l06Sums.l0 | unfold spec_l06Sums.l1
   all_goals repeat' first | (with_reducible first | apply ih0 | apply ih1 | exact LeO.refl _ | exact LeO.none _ | refine LeO.ite ?_ ?_ | refine LeO.bind ?_ (fun _ => ?_)) | apply ih0 | apply ih1 | exact LeO.none _ | refine LeO.ite ?_ ?_ | refine LeO.bind ?_ (fun _ => ?_)
theorem spec_l06Sums.mono : ∀ a0 a1 k, LeO (spec_l06Sums.f k a0 a1) (spec_l06Sums.f (k + 1) a0 a1) := by
  intro a0 a1 k
  obtain ⟨ih0, ih1⟩ := spec_l06Sums.mono_l k
  unfold spec_l06Sums.f
  repeat' first | (with_reducible first | apply ih0 | apply ih1 | exact LeO.refl _ | exact LeO.none _ | refine LeO.ite ?_ ?_ | refine LeO.bind ?_ (fun _ => ?_)) | apply ih0 | apply ih1 | exact LeO.none _ | refine LeO.ite ?_ ?_ | refine LeO.bind ?_ (fun _ => ?_)
def spec_l06Sums.T8 : Bool × List (List Nat × List Nat) := (true, [([], []), ([], []), ([0, 1], [0, 1]), ([2], [2]), ([], []), ([4], [4]), ([5], [5]), ([6], [6]), ([], []), ([7, 8], [7, 8]), ([9], [9]), ([], []), ([11], [11]), ([12], [12]), ([13], [13]), ([], []), ([14, 15], [14, 15]), ([16], [16]), ([], []), ([17, 18], [17, 18]), ([19], [19]), ([10, 20], [10, 20]), ([3, 21], [3, 21]), ([0, 1, 0, 1, 2, 3, 4, 5, 6, 7, 8, 9, 10, 11, 12, 13, 14, 15, 16, 17, 18, 19, 20, 21, 22], [0, 1]), ([23, 22, 0, 1, 2, 3, 4, 5, 6, 7, 8, 9, 10, 11, 12, 13, 14, 15, 16, 17, 18, 19, 20, 21, 22], [22, 23])])
def spec_l06Sums.B8 : List Nat := [0, 0, 3, 7, 0, 16, 48, 112, 0, 496, 1008, 0, 2048, 6144, 14336, 0, 63488, 129024, 0, 522240, 1046528, 2097136, 4194303, 8388607, 16777215]
theorem spec_l06Sums.tab8 : rtab .any (opsOf Try.f76 8) = spec_l06Sums.T8 := by kernel_rfl
theorem spec_l06Sums.bits8 : waitsOk spec_l06Sums.T8.2 spec_l06Sums.B8 = true := by kernel_rfl
set_option maxHeartbeats 8000000 in
set_option maxRecDepth 100000 in
theorem spec_l06Sums.calls (k : Nat) (gv0_0_ : Nat) (A0_0 : Option Addr) (c0_0 : Nat) (l0_0 : List Int) (A0_1 : Option Addr) (c0_1 : Nat) (l0_1 : List (List Int)) (r : List Int) (w : World) (hbx0_0_ : w.heap[gv0_0_]? = some (.cells #[.slice A0_0 l0_0.length c0_0, .slice A0_1 l0_1.length c0_1] 29 (0, 0))) (hr0_0 : Kd.C (Kd.int .i64) w A0_0 l0_0.length l0_0) (hc0_0 : l0_0.length ≤ c0_0) (hr0_1 : Kd.C (Kd.slice 2 (Kd.int .i64)) w A0_1 l0_1.length l0_1) (hc0_1 : l0_1.length ≤ c0_1) (h : spec_l06Sums.f k l0_0 l0_1 = some r) :
    Calls Try.prog 76 #[.pointer (some ⟨gv0_0_, 0, none⟩)] w fun e w' => ∃ v0_ : Value, e = .returned (v0_) ∧ Kd.R (Kd.int .i64) 2 w' w.heap.size (fun _ => True) v0_ r ∧ Below w.heap.size w w' := by
 have HR0_0 := mA hr0_0; have HC0_0 := mA hc0_0; clear hr0_0 hc0_0; have HR0_1 := mA hr0_1; have HC0_1 := mA hc0_1; clear hr0_1 hc0_1; have BK40 := mA hbx0_0_; clear hbx0_0_; have HB := mA (Below.refl w.heap.size w); have H : (if 0 < (l0_1.length : Int) then (if 0 ≤ ((rd_L1 l0_1 0).length : Int) then (if (((rd_L1 l0_1 0).length : Int) : Int).toNat ≤ 35184372088832 then (spec_l06Sums.l0 k (List.replicate (((rd_L1 l0_1 0).length : Int) : Int).toNat 0) 0 l0_0 l0_1) else (none)) else (none)) else (none)) = some r := h; clear h; obtain ⟨c2, H⟩ := sqI H; have c2b0 := decide_eq_true c2; have c2b1 : decide (0 < l0_1.length) = true := decide_eq_true (by omega); clear c2; obtain ⟨c3, H⟩ := sqI H; have c3b0 := eq_true c3; have c3b1 := decide_eq_true c3; clear c3; obtain ⟨c4, H⟩ := sqI H; have c4b0 := eq_true c4; have c4b1 := decide_eq_true c4; clear c4; obtain ⟨y166, hy166⟩ : ∃ y_ : List Int, y_ = (List.replicate (((rd_L1 l0_1 0).length : Int) : Int).toNat 0) := ⟨_, rfl⟩
 replace H : (spec_l06Sums.l0 k y166 0 l0_0 l0_1) = some r := by first | (rw [hy166]; with_reducible exact H) | (have H2_ := (Option.bind_some _ _).symm.trans H; rw [hy166]; with_reducible exact H2_) | (have H2_ := (Option.bind_some _ _).symm.trans H; with_reducible exact H2_) | with_reducible exact H | (rw [hy166]; exact H) | exact H
 have Ny166 := mA hy166; clear hy166; have H' := mA H; clear H; have hcz5_0 := sqZ0 BK40; have hcz5_1 := sqZ1 BK40; have hfz5_0 := blk_frozen BK40.out 0; have hfz5_1 := blk_frozen BK40.out 1; have p165 : 0 ≤ (0 : Int) := (by omega); have q165 : 0 < (l0_1.length : Int) := sqd; obtain ⟨ad165, A165_0, c165_0, e165, hx165_0, hl165_0, hi165_0⟩ := at_L1 HR0_1.out 0 p165 q165
 cases e165
 have qi165 : (0 < l0_1.length) = True := eq_true (by omega); (try rw [show ((0 : Int)).toNat = 0 from rfl] at hx165_0); (try rw [Addr.add_zero'] at hx165_0); have HR165_0 := mA hi165_0; have HC165_0 := mA hl165_0; clear hi165_0 hl165_0; replace p165 := eq_true p165; replace q165 := eq_true q165; go_enter Try.func76, Try.ntmps76; go_wp2_with (first | ((with_reducible refine gate_dst (N := 13) rfl ?_); refine Kd.R_make (Kd.int .i64) _ 2 rfl (N := 13) rfl 22 _ _ rfl ((rd_L1 l0_1 0).length : Int) rfl rfl Try.underlying22 (.int .i64 0) 8 info2 rfl (by decide) (by omega) 0 (ok := fun _ => True) (okp := fun _ => True) rfl (fun _ hk => hk) trivial (sqd) (Nat.le_trans (Nat.mul_le_mul_right _ (sqd : ((rd_L1 l0_1 0).length : Int).toNat ≤ 35184372088832)) (by omega)) (Below.refl _ _) (Nat.le_refl _) ?_; intro v167 w6 ho7 hb hg_ hnew_; clear hg_ hnew_; (first | rw [← Ny166.out] at ho7 | (simp only [Int.reduceToNat] at ho7; rw [← Ny166.out] at ho7)); have HO168 := mA (Kd.R_lower ho7 (below_size z0)); replace BK40 := mA (blk_below (g := gv0_0_) (o := .cells #[.slice A0_0 l0_0.length c0_0, .slice (some ad165) l0_1.length c0_1] 29 (0, 0)) (z1 BK40) hb); replace HB := mA (below_step z0 hb); clear hb ho7)); go_loopg [4] k (fun kq v4 w' => ∃ (x3_1 : List Int) (x4_1 : Int), v4 = .int .i64 x4_1 ∧ Aside0 (spec_l06Sums.l0 kq x3_1 x4_1 l0_0 l0_1 = some r) ∧ Aside0 (kq ≤ k) ∧ Aside0 (Kd.R (Kd.int .i64) 2 w' w.heap.size (fun _ => True) v167 x3_1) ∧ Aside0 (w'.heap[gv0_0_]? = some (.cells #[(.slice A0_0 l0_0.length c0_0), (.slice (some ad165) l0_1.length c0_1)] 29 (0, 0))) ∧ Aside0 (Below w.heap.size w w'))
 case atStart => exact ⟨(y166), (0), z3, H', ⟨Nat.le_refl _⟩, ⟨z2 HO168⟩, ⟨z1 BK40⟩, ⟨z0⟩⟩
 case round =>
  clear H'; (try clear c1); (try clear p1); (try clear q1); (try clear hx1); (try clear qi1); (try clear c2); (try clear c2b0); (try clear c2b1); (try clear p2); (try clear c3); (try clear c3b0); (try clear c3b1); (try clear c4); (try clear c4b0); (try clear c4b1); (try clear c7); (try clear hcz5_0); (try clear hcz5_1); (try clear hfz5_0); (try clear hfz5_1); (try clear hx165_0); (try clear p165); (try clear q165); obtain ⟨x3_1, x4_1, rfl, HA, HK1, HO_3, BK40, HB⟩ := hrel
  cases gk with
  | zero => exact absurd HA.out (by simp [spec_l06Sums.l0])
  | succ k1 =>
   have H := HA.out; clear HA; simp only [spec_l06Sums.l0] at H; refine sqC (x4_1 < (l0_1.length : Int)) (fun c8 => ?_) (fun c8 => ?_)
   ·rw [if_neg c8] at H; replace c8 := decide_eq_false c8; obtain rfl := Option.some.inj H; have hcz21_0 := sqZ0 BK40; have hcz21_1 := sqZ1 BK40; have hfz21_0 := blk_frozen BK40.out 0; have hfz21_1 := blk_frozen BK40.out 1; go_wp2; go_ret; exact ⟨_, z5, z2 HO_3, z0⟩
   rw [if_pos c8] at H; replace c8 := decide_eq_true c8; have H' := mA H; clear H; have hcz9_0 := sqZ0 BK40; have hcz9_1 := sqZ1 BK40; have hfz9_0 := blk_frozen BK40.out 0; have hfz9_1 := blk_frozen BK40.out 1; go_wp2; go_loopg [5] k1 (fun kq v5 w' => ∃ (x3_2 : List Int) (x5_2 : Int), v5 = .int .i64 x5_2 ∧ Aside0 (spec_l06Sums.l1 kq x3_2 x4_1 x5_2 l0_0 l0_1 = some r) ∧ Aside0 (kq ≤ k1) ∧ Aside0 (Kd.R (Kd.int .i64) 2 w' w.heap.size (fun _ => True) v167 x3_2) ∧ Aside0 (w'.heap[gv0_0_]? = some (.cells #[(.slice A0_0 l0_0.length c0_0), (.slice (some ad165) l0_1.length c0_1)] 29 (0, 0))) ∧ Aside0 (Below w.heap.size w w'))
   case atStart => exact ⟨(x3_1), (0), z3, H', ⟨Nat.le_refl _⟩, ⟨z2 HO_3⟩, ⟨z1 BK40⟩, ⟨z0⟩⟩
   case round =>
    clear H'; (try clear c1); (try clear p1); (try clear q1); (try clear hx1); (try clear qi1); (try clear c2); (try clear c2b0); (try clear c2b1); (try clear p2); (try clear c3); (try clear c3b0); (try clear c3b1); (try clear c4); (try clear c4b0); (try clear c4b1); (try clear c7); (try clear c8); (try clear c8b0); (try clear hcz5_0); (try clear hcz5_1); (try clear hcz9_0); (try clear hcz9_1); (try clear hfz5_0); (try clear hfz5_1); (try clear hfz9_0); (try clear hfz9_1); (try clear hx165_0); (try clear p1); (try clear p165); (try clear p2); (try clear q1); (try clear q165); obtain ⟨x3_2, x5_2, rfl, HA, HK2, HO_3, BK40, HB⟩ := hrel
    cases gk with
    | zero => exact absurd HA.out (by simp [spec_l06Sums.l1])
    | succ k2 =>
     have H := HA.out; clear HA; simp only [spec_l06Sums.l1] at H; refine sqC (x5_2 < (x3_2.length : Int)) (fun c10 => ?_) (fun c10 => ?_)
     ·rw [if_neg c10] at H; replace c10 := decide_eq_false c10; have H' := mA H; clear H; obtain ⟨Ao20, co20, eo20⟩ := Kd.R_slice HO_3.out; subst eo20; go_wp2; go_roundg k2
      case measure => have := HK1.out; have := HK2.out; omega
      case rel => exact ⟨(x3_2), (wrap64 (x4_1 + 1)), z3, H', ⟨z16 HK1 HK2⟩, ⟨z2 HO_3⟩, ⟨z1 BK40⟩, ⟨z0⟩⟩
     rw [if_pos c10] at H; replace c10 := decide_eq_true c10; obtain ⟨c11, H⟩ := sqI H; replace c11 := decide_eq_true c11; obtain ⟨c12, H⟩ := sqI H; replace c12 := decide_eq_true c12; obtain ⟨c13, H⟩ := sqI H; replace c13 := decide_eq_true c13; obtain ⟨c14, H⟩ := sqI H; replace c14 := decide_eq_true c14; obtain ⟨c15, H⟩ := sqI H; replace c15 := decide_eq_true c15; obtain ⟨y173, hy173⟩ : ∃ y_ : List Int, y_ = (x3_2.set (x5_2 : Int).toNat (wrap64 ((rd x3_2 x5_2) + (wrap64 ((rd l0_0 x4_1) * (rd (rd_L1 l0_1 x4_1) x5_2)))))) := ⟨_, rfl⟩
     replace H : (spec_l06Sums.l1 k2 y173 x4_1 (wrap64 (x5_2 + 1)) l0_0 l0_1) = some r := by first | (rw [hy173]; with_reducible exact H) | (have H2_ := (Option.bind_some _ _).symm.trans H; rw [hy173]; with_reducible exact H2_) | (have H2_ := (Option.bind_some _ _).symm.trans H; with_reducible exact H2_) | with_reducible exact H | (rw [hy173]; exact H) | exact H
     have Ny173 := mA hy173; clear hy173; have H' := mA H; clear H; obtain ⟨Ao17, co17, eo17⟩ := Kd.R_slice HO_3.out; subst eo17; (try go_wp2); replace HO_3 := mA (Kd.R_drew HO_3.out); replace BK40 := mA (blk_drew BK40.out); replace HB := mA (below_drew1 HB.out); have p169 : 0 ≤ (x5_2 : Int) := sqd; have q169 : x5_2 < (x3_2.length : Int) := sqd; obtain ⟨ad169, e169, hx169_0⟩ := Kd.at_int (Kd.R_reads' HO_3.out).2.2 x5_2 p169 q169
     cases e169
     replace p169 := eq_true p169; replace q169 := eq_true q169; have p170 : 0 ≤ (x4_1 : Int) := sqd; have q170 : x4_1 < (l0_0.length : Int) := sqd; obtain ⟨ad170, e170, hx170_0⟩ := Kd.at_int HR0_0.out x4_1 p170 q170; have hw170_0 := hx170_0
     cases e170
     replace hx170_0 := sqh HB hx170_0; replace p170 := eq_true p170; replace q170 := eq_true q170; have p171 : 0 ≤ (x4_1 : Int) := sqd; have q171 : x4_1 < (l0_1.length : Int) := sqd; obtain ⟨ad171, A171_0, c171_0, e171, hx171_0, hl171_0, hi171_0⟩ := at_L1 HR0_1.out x4_1 p171 q171; have hw171_0 := hx171_0; obtain rfl : ad165 = ad171 := (by injection e171); replace hx171_0 := sqh HB hx171_0; have HR171_0 := mA hi171_0; have HC171_0 := mA hl171_0; clear hi171_0 hl171_0; replace p171 := eq_true p171; replace q171 := eq_true q171; have p172 : 0 ≤ (x5_2 : Int) := sqd; have q172 : x5_2 < ((rd_L1 l0_1 x4_1).length : Int) := sqd; obtain ⟨ad172, e172, hx172_0⟩ := Kd.at_int HR171_0.out x5_2 p172 q172; have hw172_0 := hx172_0
     cases e172
     replace hx172_0 := sqh HB hx172_0; replace p172 := eq_true p172; replace q172 := eq_true q172; have p16 : 0 ≤ (x5_2 : Int) := sqd; have q16 : (x5_2 : Int) < ((x3_2.length : Int) : Int) := sqd; obtain ⟨go16, co16, eo16, gb16, gl16, cl16, HG16⟩ := Kd.R_form HO_3.out (by omega); (first | cases eo16 | (injection eo16 with ea_ en_ ec_; (first | subst ea_ | (injection ea_ with ea_; subst ea_)); subst ec_; clear en_)); have GB16 := mA gb16; have GG16 := mA HG16; clear gb16 gl16 HG16; (first | simp only [add_plain] at hx169_0 | skip); obtain ⟨hx16_0, hf16_0⟩ := Kd.R_celln 0 HO_3.out (x5_2 : Int) p16 q16; replace p16 := eq_true p16; replace q16 := eq_true q16; have HP19 := Kd.R_putn HO_3.out (x5_2 : Int) (wrap64 ((rd x3_2 x5_2) + (wrap64 ((rd l0_0 x4_1) * (rd (rd_L1 l0_1 x4_1) x5_2))))); rw [← Ny173.out] at HP19; have HQ19 := mA HP19; clear HP19; refine start_ (n := 25) (S := fun w' => w'.cell? ⟨gv0_0_, 0, none⟩ = some (.slice (some ad170) l0_0.length c0_0) ∧ w'.cell? ⟨gv0_0_, 1, none⟩ = some (.slice (some ad165) l0_1.length c0_1) ∧ w'.cell? ⟨go16, (x5_2).toNat, none⟩ = some (.int .i64 (rd x3_2 x5_2)) ∧ w'.cell? (ad170.add (x4_1).toNat) = some (.int .i64 (rd l0_0 x4_1)) ∧ w'.cell? (ad165.add (x4_1).toNat) = some (.slice (some ad172) (rd_L1 l0_1 x4_1).length c171_0) ∧ w'.cell? (ad172.add (x5_2).toNat) = some (.int .i64 (rd (rd_L1 l0_1 x4_1) x5_2))) (ds := [24]) #[false, false, false, false, false, false, false, false, false, false, false, false, false, false, false, false, false, false, false, false, false, false, false, false, false] (by kernel_rfl) rfl rfl ⟨(blk_cell BK40.out 0).trans rfl, (blk_cell BK40.out 1).trans rfl, hx169_0, ((HB.out.cell (World.block_lt_of_cell? w _ hw170_0)).trans hw170_0), ((HB.out.cell (World.block_lt_of_cell? w _ hw171_0)).trans hw171_0), ((HB.out.cell (World.block_lt_of_cell? w _ hw172_0)).trans hw172_0)⟩ (fun hHeld => ?_); refine with_tabW spec_l06Sums.tab8 spec_l06Sums.bits8 (fun HT_ HW_ => ?_); generalize wr.drew = w18 at HO_3 BK40 HB GG16 HQ19 HR171_0 hf16_0 hx169_0 hx16_0 hx170_0 hx171_0 hx172_0 hHeld ⊢; refine sqr0 0 (some 29) ?_; refine sqr0 1 (some 30) ?_; refine sqr0 2 (some 31) ?_; refine sqr0 4 (some 33) ?_; refine sqr0 5 (some 34) ?_; refine sqr0 6 (some 35) ?_; refine sqr0 8 (some 37) ?_; refine sqr0 11 (some 40) ?_; refine sqr0 12 (some 41) ?_; refine sqr0 13 (some 42) ?_; refine sqr0 15 (some 44) ?_; refine sqr0 18 (some 47) ?_; refine sqr8 3 (some 32) ?_; refine sqr8 7 (some 36) ?_; refine sqr0 9 (some 38) ?_; refine sqr8 10 (some 39) ?_; refine sqr8 14 (some 43) ?_; refine sqr0 16 (some 45) ?_; refine sqr8 17 (some 46) ?_; refine sqr0 19 (some 48) ?_; refine sqr8 20 (some 49) ?_; refine sqr0 21 (some 50) ?_; refine sqr0 22 (some 51) ?_; refine sqr0 23 (some 52) ?_; refine last_ (i := 24) (N := none) #[true, true, true, true, true, true, true, true, true, true, true, true, true, true, true, true, true, true, true, true, true, true, true, true, true] rfl rfl (one_of HT_.out (by kernel_rfl)) (by decide) (fun K hK => ?_); refine skip_ (w1 := ?_) (by rfl) rfl ?_ ?_; rotate_left
     ·go_simp; rfl
     refine hK.out _ _ ?_; clear hK K; refine done_ (done_of HT_.out (by kernel_rfl)) ?_; (try go_wp2); go_roundg k2
     case measure => have := HK1.out; have := HK2.out; omega
     case rel => exact ⟨(y173), (wrap64 (x5_2 + 1)), z3, H', ⟨z16 HK1 HK2⟩, ⟨z2 HQ19⟩, ⟨z46 HO_3 BK40⟩, ⟨z47 GB16⟩⟩

/-! ### spec_l01Sum: function 77 -/
def spec_l01Sum.l0 : Nat → List Int → Int → Int → Option (Int)
  | 0, _, _, _ => none
  | k + 1, x0, x3, x4 => if x4 < (x0.length : Int) then (if 0 ≤ x4 then (spec_l01Sum.l0 k x0 (wrap64 (x3 + (rd x0 x4))) (wrap64 (x4 + 1))) else (none)) else (some x3)
def spec_l01Sum.f (k : Nat) (l0 : List Int) : Option (Int) := spec_l01Sum.l0 k l0 0 0
theorem spec_l01Sum.mono_l : ∀ k, (∀ y0 y1 y2, LeO (spec_l01Sum.l0 k y0 y1 y2) (spec_l01Sum.l0 (k + 1) y0 y1 y2))
  | 0 => fun _ _ _ r h => by simp [spec_l01Sum.l0] at h
  | k + 1 => by
   have ih0 := spec_l01Sum.mono_l k
   intros
   unfold spec_l01Sum.l0
   all_goals repeat' first | (with_reducible first | apply ih0 | exact LeO.refl _ | exact LeO.none _ | refine LeO.ite ?_ ?_ | refine LeO.bind ?_ (fun _ => ?_)) | apply ih0 | exact LeO.none _ | refine LeO.ite ?_ ?_ | refine LeO.bind ?_ (fun _ => ?_)
theorem spec_l01Sum.mono : ∀ a0 k, LeO (spec_l01Sum.f k a0) (spec_l01Sum.f (k + 1) a0) := by
  intro a0 k
  have ih0 := spec_l01Sum.mono_l k
  unfold spec_l01Sum.f
  repeat' first | (with_reducible first | apply ih0 | exact LeO.refl _ | exact LeO.none _ | refine LeO.ite ?_ ?_ | refine LeO.bind ?_ (fun _ => ?_)) | apply ih0 | exact LeO.none _ | refine LeO.ite ?_ ?_ | refine LeO.bind ?_ (fun _ => ?_)
set_option maxHeartbeats 8000000 in
set_option maxRecDepth 100000 in
theorem spec_l01Sum.calls (k : Nat) (A0 : Option Addr) (c0 : Nat) (l0 : List Int) (r : Int) (w : World) (hr0 : Kd.C (Kd.int .i64) w A0 l0.length l0) (hc0 : l0.length ≤ c0) (h : spec_l01Sum.f k l0 = some r) :
    Calls Try.prog 77 #[.slice A0 l0.length c0] w fun e w' => e = .returned (.int .i64 r) ∧ Drawn0 w w' := by
 have HR0 := mA hr0; have HC0 := mA hc0; clear hr0 hc0; have H : (spec_l01Sum.l0 k l0 0 0) = some r := h; clear h; have H' := mA H; clear H; go_enter Try.func77, Try.ntmps77; go_wp2; go_loopg [3, 4] k (fun kq v3 v4 w' => ∃ (x3_1 : Int) (x4_1 : Int), v3 = .int .i64 x3_1 ∧ v4 = .int .i64 x4_1 ∧ Aside0 (spec_l01Sum.l0 kq l0 x3_1 x4_1 = some r) ∧ Aside0 (kq ≤ k) ∧ Drawn0 w w')
 case atStart => exact ⟨(0), (0), z3, z3, H', ⟨Nat.le_refl _⟩, z10⟩
 case round =>
  clear H'; obtain ⟨x3_1, x4_1, rfl, rfl, HA, HK1, ⟨m1, rfl⟩⟩ := hrel
  cases gk with
  | zero => exact absurd HA.out (by simp [spec_l01Sum.l0])
  | succ k1 =>
   have H := HA.out; clear HA; simp only [spec_l01Sum.l0] at H; refine sqC (x4_1 < (l0.length : Int)) (fun c2 => ?_) (fun c2 => ?_)
   ·rw [if_neg c2] at H; replace c2 := decide_eq_false c2; obtain rfl := Option.some.inj H; go_wp2; go_ret; exact ⟨z3, z10⟩
   rw [if_pos c2] at H; replace c2 := decide_eq_true c2; obtain ⟨c3, H⟩ := sqI H; replace c3 := decide_eq_true c3; have H' := mA H; clear H; have p174 : 0 ≤ (x4_1 : Int) := sqd; have q174 : x4_1 < (l0.length : Int) := sqd; obtain ⟨ad174, e174, hx174_0⟩ := Kd.at_int HR0.out x4_1 p174 q174
   cases e174
   replace p174 := eq_true p174; replace q174 := eq_true q174; go_wp2; go_roundg k1
   case measure => have := HK1.out; omega
   case rel => exact ⟨(wrap64 (x3_1 + (rd l0 x4_1))), (wrap64 (x4_1 + 1)), z3, z3, H', ⟨by have := HK1.out; omega⟩, z10⟩

end Go.Proofs.Ytlhpejabdmejbaa.PFnExactIsMixtureOf
