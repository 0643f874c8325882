/- Written by this session's program (wip/tool/xprint.py) over the kit's printer. -/
import Derived.Test.YtmjabeddommiaaaPFnExactIsTableRoundingx0
namespace Go.Proofs.Ytmjabeddommiaaa.PFnExactIsTableRounding
open Go.RowKit Go.Proofs.YtmjabeddommiaaaW.PrintWords Go.Proofs.YtmjabeddommiaaaW.PrintLast Go.Proofs.YtmjabeddommiaaaW.PrintMore
attribute [local go_sem] max2_int min2_int max_two min_two max_three min_three max_four min_four   -- for this text's walks alone
set_option linter.unusedVariables false
set_option linter.unusedSimpArgs false

/-! ### spec_l05Down: function 50 -/
mutual
def spec_l05Down.l0 : Nat → List (List Int) → List Int → Int → Option (List Int)
  | 0, _, _, _ => none
  | k + 1, x0, x3, x4 => if x4 < (x0.length : Int) then (spec_l05Down.l1 k x0 x3 x4 0) else (some x3)
def spec_l05Down.l1 : Nat → List (List Int) → List Int → Int → Int → Option (List Int)
  | 0, _, _, _, _ => none
  | k + 1, x0, x3, x4, x5 => if 0 ≤ x4 then (if x4 < (x0.length : Int) then (if x5 < ((rd_L1 x0 x4).length : Int) then (if 0 ≤ x5 then (if x5 < (x3.length : Int) then (spec_l05Down.l1 k x0 (x3.set (x5 : Int).toNat (wrap64 ((rd x3 x5) + (rd (rd_L1 x0 x4) x5)))) x4 (wrap64 (x5 + 1))) else (none)) else (none)) else (spec_l05Down.l0 k x0 x3 (wrap64 (x4 + 1)))) else (none)) else (none)
end
def spec_l05Down.f (k : Nat) (l0 : List (List Int)) : Option (List Int) := if 0 < (l0.length : Int) then (if 0 ≤ ((rd_L1 l0 0).length : Int) then (if (((rd_L1 l0 0).length : Int) : Int).toNat ≤ 35184372088832 then (spec_l05Down.l0 k l0 (List.replicate (((rd_L1 l0 0).length : Int) : Int).toNat 0) 0) else (none)) else (none)) else (none)
theorem spec_l05Down.mono_l : ∀ k, (∀ y0 y1 y2, LeO (spec_l05Down.l0 k y0 y1 y2) (spec_l05Down.l0 (k + 1) y0 y1 y2)) ∧ (∀ y0 y1 y2 y3, LeO (spec_l05Down.l1 k y0 y1 y2 y3) (spec_l05Down.l1 (k + 1) y0 y1 y2 y3))
  | 0 => ⟨fun _ _ _ r h => by simp [spec_l05Down.l0] at h, fun _ _ _ _ r h => by simp [spec_l05Down.l1] at h⟩
  | k + 1 => by
   obtain ⟨ih0, ih1⟩ := spec_l05Down.mono_l k
   refine ⟨?_, ?_⟩ <;> intros
   all_goals first | unfold spec_l05Down.l0 | unfold spec_l05Down.l1
   all_goals repeat' first | (with_reducible first | apply ih0 | apply ih1 | exact LeO.refl _ | exact LeO.none _ | refine LeO.ite ?_ ?_ | refine LeO.bind ?_ (fun _ => ?_)) | apply ih0 | apply ih1 | exact LeO.none _ | refine LeO.ite ?_ ?_ | refine LeO.bind ?_ (fun _ => ?_)
theorem spec_l05Down.mono : ∀ a0 k, LeO (spec_l05Down.f k a0) (spec_l05Down.f (k + 1) a0) := by
  intro a0 k
  obtain ⟨ih0, ih1⟩ := spec_l05Down.mono_l k
  unfold spec_l05Down.f
  repeat' first | (with_reducible first | apply ih0 | apply ih1 | exact LeO.refl _ | exact LeO.none _ | refine LeO.ite ?_ ?_ | refine LeO.bind ?_ (fun _ => ?_)) | apply ih0 | apply ih1 | exact LeO.none _ | refine LeO.ite ?_ ?_ | refine LeO.bind ?_ (fun _ => ?_)
def spec_l05Down.T8 : Bool × List (List Nat × List Nat) := (true, [([], []), ([], []), ([0, 1], [0, 1]), ([2], [2]), ([], []), ([], []), ([4, 5], [4, 5]), ([6], [6]), ([], []), ([7, 8], [7, 8]), ([9], [9]), ([3, 10], [3, 10]), ([0, 1, 0, 1, 2, 3, 4, 5, 6, 7, 8, 9, 10, 11], [0, 1]), ([12, 11, 0, 1, 2, 3, 4, 5, 6, 7, 8, 9, 10, 11], [11, 12])])
def spec_l05Down.B8 : List Nat := [0, 0, 3, 7, 0, 0, 48, 112, 0, 496, 1008, 2047, 4095, 8191]
theorem spec_l05Down.tab8 : rtab .any (opsOf Try.f50 8) = spec_l05Down.T8 := by kernel_rfl
theorem spec_l05Down.bits8 : waitsOk spec_l05Down.T8.2 spec_l05Down.B8 = true := by kernel_rfl
set_option maxHeartbeats 8000000 in
set_option maxRecDepth 100000 in
theorem spec_l05Down.calls (k : Nat) (A0 : Option Addr) (c0 : Nat) (l0 : List (List Int)) (r : List Int) (w : World) (hr0 : Kd.C (Kd.slice 2 (Kd.int .i64)) w A0 l0.length l0) (hc0 : l0.length ≤ c0) (h : spec_l05Down.f k l0 = some r) :
    Calls Try.prog 50 #[.slice A0 l0.length c0] w fun e w' => ∃ v0_ : Value, e = .returned (v0_) ∧ Kd.R (Kd.int .i64) 2 w' w.heap.size (fun _ => True) v0_ r ∧ Below w.heap.size w w' := by
 have HR0 := mA hr0; have HC0 := mA hc0; clear hr0 hc0; have HB := mA (Below.refl w.heap.size w); have H : (if 0 < (l0.length : Int) then (if 0 ≤ ((rd_L1 l0 0).length : Int) then (if (((rd_L1 l0 0).length : Int) : Int).toNat ≤ 35184372088832 then (spec_l05Down.l0 k l0 (List.replicate (((rd_L1 l0 0).length : Int) : Int).toNat 0) 0) else (none)) else (none)) else (none)) = some r := h; clear h; obtain ⟨c2, H⟩ := sqI H; have c2b0 := decide_eq_true c2; have c2b1 : decide (0 < l0.length) = true := decide_eq_true (by omega); clear c2; obtain ⟨c3, H⟩ := sqI H; have c3b0 := eq_true c3; have c3b1 := decide_eq_true c3; clear c3; obtain ⟨c4, H⟩ := sqI H; have c4b0 := eq_true c4; have c4b1 := decide_eq_true c4; clear c4; obtain ⟨y152, hy152⟩ : ∃ y_ : List Int, y_ = (List.replicate (((rd_L1 l0 0).length : Int) : Int).toNat 0) := ⟨_, rfl⟩
 replace H : (spec_l05Down.l0 k l0 y152 0) = some r := by first | (rw [hy152]; with_reducible exact H) | (have H2_ := (Option.bind_some _ _).symm.trans H; rw [hy152]; with_reducible exact H2_) | (have H2_ := (Option.bind_some _ _).symm.trans H; with_reducible exact H2_) | with_reducible exact H | (rw [hy152]; exact H) | exact H
 have Ny152 := mA hy152; clear hy152; have H' := mA H; clear H; have p151 : 0 ≤ (0 : Int) := (by omega); have q151 : 0 < (l0.length : Int) := sqd; obtain ⟨ad151, A151_0, c151_0, e151, hx151_0, hl151_0, hi151_0⟩ := at_L1 HR0.out 0 p151 q151
 cases e151
 have qi151 : (0 < l0.length) = True := eq_true (by omega); (try rw [show ((0 : Int)).toNat = 0 from rfl] at hx151_0); (try rw [Addr.add_zero'] at hx151_0); have HR151_0 := mA hi151_0; have HC151_0 := mA hl151_0; clear hi151_0 hl151_0; replace p151 := eq_true p151; replace q151 := eq_true q151; go_enter Try.func50, Try.ntmps50; go_wp2_with (first | ((with_reducible refine gate_dst (N := 10) rfl ?_); refine Kd.R_make (Kd.int .i64) _ 2 rfl (N := 10) rfl 26 _ _ rfl ((rd_L1 l0 0).length : Int) rfl rfl Try.underlying26 (.int .i64 0) 8 info2 rfl (by decide) (by omega) 0 (ok := fun _ => True) (okp := fun _ => True) rfl (fun _ hk => hk) trivial (sqd) (Nat.le_trans (Nat.mul_le_mul_right _ (sqd : ((rd_L1 l0 0).length : Int).toNat ≤ 35184372088832)) (by omega)) (Below.refl _ _) (Nat.le_refl _) ?_; intro v153 w5 ho6 hb hg_ hnew_; clear hg_ hnew_; (first | rw [← Ny152.out] at ho6 | (simp only [Int.reduceToNat] at ho6; rw [← Ny152.out] at ho6)); have HO154 := mA (Kd.R_lower ho6 (below_size z4)); replace HB := mA (below_step z4 hb); clear hb ho6)); go_loopg [4] k (fun kq v4 w' => ∃ (x3_1 : List Int) (x4_1 : Int), v4 = .int .i64 x4_1 ∧ Aside0 (spec_l05Down.l0 kq l0 x3_1 x4_1 = some r) ∧ Aside0 (kq ≤ k) ∧ Aside0 (Kd.R (Kd.int .i64) 2 w' w.heap.size (fun _ => True) v153 x3_1) ∧ Aside0 (Below w.heap.size w w'))
 case atStart => exact ⟨(y152), (0), z5, H', ⟨Nat.le_refl _⟩, ⟨z3 HO154⟩, ⟨z4⟩⟩
 case round =>
  clear H'; (try clear c1); (try clear p1); (try clear q1); (try clear hx1); (try clear qi1); (try clear c2); (try clear c2b0); (try clear c2b1); (try clear p2); (try clear c3); (try clear c3b0); (try clear c3b1); (try clear c4); (try clear c4b0); (try clear c4b1); (try clear c5); (try clear hx151_0); (try clear p151); (try clear q151); obtain ⟨x3_1, x4_1, rfl, HA, HK1, HO_3, HB⟩ := hrel
  cases gk with
  | zero => exact absurd HA.out (by simp [spec_l05Down.l0])
  | succ k1 =>
   have H := HA.out; clear HA; simp only [spec_l05Down.l0] at H; refine sqC (x4_1 < (l0.length : Int)) (fun c7 => ?_) (fun c7 => ?_)
   ·rw [if_neg c7] at H; replace c7 := decide_eq_false c7; obtain rfl := Option.some.inj H; go_wp2; go_ret; exact ⟨_, z6, z3 HO_3, z4⟩
   rw [if_pos c7] at H; replace c7 := decide_eq_true c7; have H' := mA H; clear H; go_wp2; go_loopg [5] k1 (fun kq v5 w' => ∃ (x3_2 : List Int) (x5_2 : Int), v5 = .int .i64 x5_2 ∧ Aside0 (spec_l05Down.l1 kq l0 x3_2 x4_1 x5_2 = some r) ∧ Aside0 (kq ≤ k1) ∧ Aside0 (Kd.R (Kd.int .i64) 2 w' w.heap.size (fun _ => True) v153 x3_2) ∧ Aside0 (Below w.heap.size w w'))
   case atStart => exact ⟨(x3_1), (0), z5, H', ⟨Nat.le_refl _⟩, ⟨z3 HO_3⟩, ⟨z4⟩⟩
   case round =>
    clear H'; (try clear c1); (try clear p1); (try clear q1); (try clear hx1); (try clear qi1); (try clear c2); (try clear c2b0); (try clear c2b1); (try clear p2); (try clear c3); (try clear c3b0); (try clear c3b1); (try clear c4); (try clear c4b0); (try clear c4b1); (try clear c5); (try clear c7); (try clear c7b0); (try clear hx151_0); (try clear p1); (try clear p151); (try clear p2); (try clear q1); (try clear q151); obtain ⟨x3_2, x5_2, rfl, HA, HK2, HO_3, HB⟩ := hrel
    cases gk with
    | zero => exact absurd HA.out (by simp [spec_l05Down.l1])
    | succ k2 =>
     have H := HA.out; clear HA; simp only [spec_l05Down.l1] at H; obtain ⟨c8, H⟩ := sqI H; replace c8 := decide_eq_true c8; obtain ⟨c9, H⟩ := sqI H; replace c9 := decide_eq_true c9; refine sqC (x5_2 < ((rd_L1 l0 x4_1).length : Int)) (fun c10 => ?_) (fun c10 => ?_)
     ·rw [if_neg c10] at H; replace c10 := decide_eq_false c10; have H' := mA H; clear H; have p155 : 0 ≤ (x4_1 : Int) := sqd; have q155 : x4_1 < (l0.length : Int) := sqd; obtain ⟨ad155, A155_0, c155_0, e155, hx155_0, hl155_0, hi155_0⟩ := at_L1 HR0.out x4_1 p155 q155; obtain rfl : ad151 = ad155 := (by injection e155); replace hx155_0 := sqh HB hx155_0; have HR155_0 := mA hi155_0; have HC155_0 := mA hl155_0; clear hi155_0 hl155_0; replace p155 := eq_true p155; replace q155 := eq_true q155; go_wp2; go_roundg k2
      case measure => have := HK1.out; have := HK2.out; omega
      case rel => exact ⟨(x3_2), (wrap64 (x4_1 + 1)), z5, H', ⟨z14 HK1 HK2⟩, ⟨z3 HO_3⟩, ⟨z4⟩⟩
     rw [if_pos c10] at H; replace c10 := decide_eq_true c10; obtain ⟨c11, H⟩ := sqI H; replace c11 := decide_eq_true c11; obtain ⟨c12, H⟩ := sqI H; replace c12 := decide_eq_true c12; obtain ⟨y159, hy159⟩ : ∃ y_ : List Int, y_ = (x3_2.set (x5_2 : Int).toNat (wrap64 ((rd x3_2 x5_2) + (rd (rd_L1 l0 x4_1) x5_2)))) := ⟨_, rfl⟩
     replace H : (spec_l05Down.l1 k2 l0 y159 x4_1 (wrap64 (x5_2 + 1))) = some r := by first | (rw [hy159]; with_reducible exact H) | (have H2_ := (Option.bind_some _ _).symm.trans H; rw [hy159]; with_reducible exact H2_) | (have H2_ := (Option.bind_some _ _).symm.trans H; with_reducible exact H2_) | with_reducible exact H | (rw [hy159]; exact H) | exact H
     have Ny159 := mA hy159; clear hy159; have H' := mA H; clear H; have p155 : 0 ≤ (x4_1 : Int) := sqd; have q155 : x4_1 < (l0.length : Int) := sqd; obtain ⟨ad155, A155_0, c155_0, e155, hx155_0, hl155_0, hi155_0⟩ := at_L1 HR0.out x4_1 p155 q155; obtain rfl : ad151 = ad155 := (by injection e155); replace hx155_0 := sqh HB hx155_0; have HR155_0 := mA hi155_0; have HC155_0 := mA hl155_0; clear hi155_0 hl155_0; replace p155 := eq_true p155; replace q155 := eq_true q155; (try go_wp2); replace HO_3 := mA (Kd.R_drew HO_3.out); replace HB := mA (below_drew1 HB.out); obtain ⟨Ao15, co15, eo15⟩ := Kd.R_slice HO_3.out; (first | subst eo15 | (injection eo15 with f1_ f2_ f3_; have f4_ := f1_.symm; have f5_ := f3_.symm; clear f1_ f2_ f3_; subst f4_; subst f5_)); have p156 : 0 ≤ (x5_2 : Int) := sqd; have q156 : x5_2 < (x3_2.length : Int) := sqd; obtain ⟨ad156, e156, hx156_0⟩ := Kd.at_int (Kd.R_reads' HO_3.out).2.2 x5_2 p156 q156
     cases e156
     replace p156 := eq_true p156; replace q156 := eq_true q156; have p157 : 0 ≤ (x4_1 : Int) := sqd; have q157 : x4_1 < (l0.length : Int) := sqd; obtain ⟨ad157, A157_0, c157_0, e157, hx157_0, hl157_0, hi157_0⟩ := at_L1 HR0.out x4_1 p157 q157; have hw157_0 := hx157_0; obtain rfl : ad151 = ad157 := (by injection e157); replace hx157_0 := sqh HB hx157_0; have HR157_0 := mA hi157_0; have HC157_0 := mA hl157_0; clear hi157_0 hl157_0; replace p157 := eq_true p157; replace q157 := eq_true q157; have p158 : 0 ≤ (x5_2 : Int) := sqd; have q158 : x5_2 < ((rd_L1 l0 x4_1).length : Int) := sqd; obtain ⟨ad158, e158, hx158_0⟩ := Kd.at_int HR157_0.out x5_2 p158 q158; have hw158_0 := hx158_0
     cases e158
     replace hx158_0 := sqh HB hx158_0; replace p158 := eq_true p158; replace q158 := eq_true q158; have p13 : 0 ≤ (x5_2 : Int) := sqd; have q13 : (x5_2 : Int) < ((x3_2.length : Int) : Int) := sqd; obtain ⟨go13, co13, eo13, gb13, gl13, cl13, HG13⟩ := Kd.R_form HO_3.out (by omega); (first | cases eo13 | (injection eo13 with ea_ en_ ec_; (first | subst ea_ | (injection ea_ with ea_; subst ea_)); subst ec_; clear en_)); have GB13 := mA gb13; have GG13 := mA HG13; clear gb13 gl13 HG13; (first | simp only [add_plain] at hx156_0 | skip); obtain ⟨hx13_0, hf13_0⟩ := Kd.R_celln 0 HO_3.out (x5_2 : Int) p13 q13; replace p13 := eq_true p13; replace q13 := eq_true q13; have HP16 := Kd.R_putn HO_3.out (x5_2 : Int) (wrap64 ((rd x3_2 x5_2) + (rd (rd_L1 l0 x4_1) x5_2))); rw [← Ny159.out] at HP16; have HQ16 := mA HP16; clear HP16; refine start_ (n := 14) (S := fun w' => w'.cell? ⟨go13, (x5_2).toNat, none⟩ = some (.int .i64 (rd x3_2 x5_2)) ∧ w'.cell? (ad151.add (x4_1).toNat) = some (.slice (some ad158) (rd_L1 l0 x4_1).length c157_0) ∧ w'.cell? (ad158.add (x5_2).toNat) = some (.int .i64 (rd (rd_L1 l0 x4_1) x5_2))) (ds := [13]) #[false, false, false, false, false, false, false, false, false, false, false, false, false, false] (by kernel_rfl) rfl rfl ⟨hx156_0, ((HB.out.cell (World.block_lt_of_cell? w _ hw157_0)).trans hw157_0), ((HB.out.cell (World.block_lt_of_cell? w _ hw158_0)).trans hw158_0)⟩ (fun hHeld => ?_); refine with_tabW spec_l05Down.tab8 spec_l05Down.bits8 (fun HT_ HW_ => ?_); generalize wr.drew = w14 at HO_3 HB GG13 HQ16 HR157_0 hf13_0 hx13_0 hx156_0 hx157_0 hx158_0 hHeld ⊢; refine sqr0 0 (some 26) ?_; refine sqr0 1 (some 27) ?_; refine sqr0 2 (some 28) ?_; refine sqr0 4 (some 30) ?_; refine sqr0 5 (some 31) ?_; refine sqr0 6 (some 32) ?_; refine sqr0 8 (some 34) ?_; refine sqr4 3 (some 29) ?_; refine sqr4 7 (some 33) ?_; refine sqr0 9 (some 35) ?_; refine sqr4 10 (some 36) ?_; refine sqr0 11 (some 37) ?_; refine sqr0 12 (some 38) ?_; refine last_ (i := 13) (N := none) #[true, true, true, true, true, true, true, true, true, true, true, true, true, true] rfl rfl (one_of HT_.out (by kernel_rfl)) (by decide) (fun K hK => ?_); refine skip_ (w1 := ?_) (by rfl) rfl ?_ ?_; rotate_left
     ·go_simp; rfl
     refine hK.out _ _ ?_; clear hK K; refine done_ (done_of HT_.out (by kernel_rfl)) ?_; (try go_wp2); go_roundg k2
     case measure => have := HK1.out; have := HK2.out; omega
     case rel => exact ⟨(y159), (wrap64 (x5_2 + 1)), z5, H', ⟨z14 HK1 HK2⟩, ⟨z3 HQ16⟩, ⟨by repeat (first | (with_reducible first | exact HB.out | apply below_alloc | apply pw_below_drewN | apply below_drew1 | refine below_set ?_ GB13.out) | exact HB.out)⟩⟩

/-! ### spec_l01Floor: function 102 -/
def spec_l01Floor.f (a0 : Int) (a1 : Int) : Option (Int) := if a1 = 0 then (none) else (if (wrap64 ((wrap64 (Int.tdiv a0 a1)) * a1)) > a0 then (some (wrap64 ((wrap64 (Int.tdiv a0 a1)) - 1))) else (some (wrap64 (Int.tdiv a0 a1))))
set_option maxHeartbeats 8000000 in
set_option maxRecDepth 100000 in
theorem spec_l01Floor.calls (a0 : Int) (a1 : Int) (r : Int) (w : World) (h : spec_l01Floor.f a0 a1 = some r) :
    Calls Try.prog 102 #[.int .i64 a0, .int .i64 a1] w fun e w' => e = .returned (.int .i64 r) ∧ Drawn0 w w' := by
 have H : (if a1 = 0 then (none) else (if (wrap64 ((wrap64 (Int.tdiv a0 a1)) * a1)) > a0 then (some (wrap64 ((wrap64 (Int.tdiv a0 a1)) - 1))) else (some (wrap64 (Int.tdiv a0 a1))))) = some r := h; clear h; obtain ⟨c3, H⟩ := sqJ H; have c3b0 : (a1 == 0) = false := beq_eq_false_iff_ne.mpr c3; have c3b1 : (a1 != 0) = true := bne_iff_ne.mpr c3; by_cases c4 : (wrap64 ((wrap64 (Int.tdiv a0 a1)) * a1)) > a0
 ·rw [if_pos c4] at H; replace c4 := decide_eq_true c4; obtain rfl := Option.some.inj H; go_enter Try.func102, Try.ntmps102; go_wp2; go_ret; exact ⟨z5, z10⟩
 rw [if_neg c4] at H; replace c4 := decide_eq_false c4; obtain rfl := Option.some.inj H; go_enter Try.func102, Try.ntmps102; go_wp2; go_ret; exact ⟨z5, z10⟩

/-! ### spec_l01Ceil: function 103 -/
def spec_l01Ceil.f (a0 : Int) (a1 : Int) : Option (Int) := (spec_l01Floor.f (wrap64 (-a0)) a1).bind fun t160 => (some (wrap64 (-t160)))
set_option maxHeartbeats 8000000 in
set_option maxRecDepth 100000 in
theorem spec_l01Ceil.calls (a0 : Int) (a1 : Int) (r : Int) (w : World) (h : spec_l01Ceil.f a0 a1 = some r) :
    Calls Try.prog 103 #[.int .i64 a0, .int .i64 a1] w fun e w' => e = .returned (.int .i64 r) ∧ Drawn0 w w' := by
 have H : ((spec_l01Floor.f (wrap64 (-a0)) a1).bind fun t160 => (some (wrap64 (-t160)))) = some r := h; clear h; obtain ⟨t160, A3, H⟩ := sqB H; obtain rfl := Option.some.inj H; go_enter Try.func103, Try.ntmps103; go_wp2_with (first | (refine sqG 102 (some 8) Try.func102 #[.int .i64 (wrap64 (-a0)), .int .i64 a1] (h := ?_); (with_reducible refine (spec_l01Floor.calls (wrap64 (-a0)) a1 t160 _ A3.out).mono ?_); rintro e w' ⟨rfl, ⟨nd, rfl⟩⟩; refine ⟨_, rfl, ?_⟩)); go_ret; exact ⟨z5, z10⟩

/-! ### spec_l05Round: function 93 -/
def spec_l05Round.f (a0 : Int) (a1 : Int) (a2 : Int) : Option (Bool) := (spec_l01Floor.f a1 a2).bind fun t161 => (if a0 = t161 then (some true) else ((spec_l01Ceil.f a1 a2).bind fun t162 => (some (a0 == t162))))
set_option maxHeartbeats 8000000 in
set_option maxRecDepth 100000 in
theorem spec_l05Round.calls (a0 : Int) (a1 : Int) (a2 : Int) (r : Bool) (w : World) (h : spec_l05Round.f a0 a1 a2 = some r) :
    Calls Try.prog 93 #[.int .i64 a0, .int .i64 a1, .int .i64 a2] w fun e w' => e = .returned (.bool r) ∧ Drawn0 w w' := by
 have H : ((spec_l01Floor.f a1 a2).bind fun t161 => (if a0 = t161 then (some true) else ((spec_l01Ceil.f a1 a2).bind fun t162 => (some (a0 == t162))))) = some r := h; clear h; obtain ⟨t161, A4, H⟩ := sqB H; by_cases c5 : a0 = t161
 ·rw [if_pos c5] at H; have c5b0 : (a0 == t161) = true := beq_iff_eq.mpr c5; have c5b1 : (a0 != t161) = false := bne_eq_false_iff_eq.mpr c5; clear c5; obtain rfl := Option.some.inj H; go_enter Try.func93, Try.ntmps93; go_wp2_with (first | (refine sqG 102 (some 10) Try.func102 #[.int .i64 a1, .int .i64 a2] (h := ?_); (with_reducible refine (spec_l01Floor.calls a1 a2 t161 _ A4.out).mono ?_); rintro e w' ⟨rfl, ⟨nd, rfl⟩⟩; refine ⟨_, rfl, ?_⟩)); go_ret; exact ⟨z5, z10⟩
 rw [if_neg c5] at H; have c5b0 : (a0 == t161) = false := beq_eq_false_iff_ne.mpr c5; have c5b1 : (a0 != t161) = true := bne_iff_ne.mpr c5; obtain ⟨t162, A6, H⟩ := sqB H; obtain rfl := Option.some.inj H; go_enter Try.func93, Try.ntmps93; go_wp2_with (first | (refine sqG 102 (some 10) Try.func102 #[.int .i64 a1, .int .i64 a2] (h := ?_); (with_reducible refine (spec_l01Floor.calls a1 a2 t161 _ A4.out).mono ?_); rintro e w' ⟨rfl, ⟨nd, rfl⟩⟩; refine ⟨_, rfl, ?_⟩) | (go_at_call 103; (with_reducible refine (spec_l01Ceil.calls a1 a2 t162 _ A6.out).mono ?_); rintro e w' ⟨rfl, ⟨nd, rfl⟩⟩)); go_ret; exact ⟨z5, z10⟩

end Go.Proofs.Ytmjabeddommiaaa.PFnExactIsTableRounding
