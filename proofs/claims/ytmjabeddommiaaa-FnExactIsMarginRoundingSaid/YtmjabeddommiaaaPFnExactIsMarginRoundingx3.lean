/- Written by this session's program (wip/tool/xprint.py) over the kit's printer. -/
import Derived.Test.YtmjabeddommiaaaPFnExactIsMarginRoundingx0
namespace Go.Proofs.Ytmjabeddommiaaa.PFnExactIsMarginRounding
open Go.RowKit Go.Proofs.YtmjabeddommiaaaW.PrintWords Go.Proofs.YtmjabeddommiaaaW.PrintLast Go.Proofs.YtmjabeddommiaaaW.PrintMore
attribute [local go_sem] max2_int min2_int max_two min_two max_three min_three max_four min_four   -- for this text's walks alone
set_option linter.unusedVariables false
set_option linter.unusedSimpArgs false

/-! ### spec_l05Down: function 50 -/
mutual
def spec_l05Down.l0 : Nat → List (List Int) → List Int → Int → Option (List Int)
  | 0, _, _, _ => none
  | k + 1, x0, x3, x4 => if x4 < (x0.length : Int) then (spec_l05Down.l1 k x0 x3 x4 0) else (some x3)
def spec_l05Down.l1 : Nat → List (List Int) → List Int → Int → Int → Option (List Int)
  | 0, _, _, _, _ => none
  | k + 1, x0, x3, x4, x5 => if 0 ≤ x4 then (if x4 < (x0.length : Int) then (if x5 < ((rd_L1 x0 x4).length : Int) then (if 0 ≤ x5 then (if x5 < (x3.length : Int) then (spec_l05Down.l1 k x0 (x3.set (x5 : Int).toNat (wrap64 ((rd x3 x5) + (rd (rd_L1 x0 x4) x5)))) x4 (wrap64 (x5 + 1))) else (none)) else (none)) else (spec_l05Down.l0 k x0 x3 (wrap64 (x4 + 1)))) else (none)) else (none)
end
def spec_l05Down.f (k : Nat) (l0 : List (List Int)) : Option (List Int) := if 0 < (l0.length : Int) then (if 0 ≤ ((rd_L1 l0 0).length : Int) then (if (((rd_L1 l0 0).length : Int) : Int).toNat ≤ 35184372088832 then (spec_l05Down.l0 k l0 (List.replicate (((rd_L1 l0 0).length : Int) : Int).toNat 0) 0) else (none)) else (none)) else (none)
theorem spec_l05Down.mono_l : ∀ k, (∀ y0 y1 y2, LeO (spec_l05Down.l0 k y0 y1 y2) (spec_l05Down.l0 (k + 1) y0 y1 y2)) ∧ (∀ y0 y1 y2 y3, LeO (spec_l05Down.l1 k y0 y1 y2 y3) (spec_l05Down.l1 (k + 1) y0 y1 y2 y3))
  | 0 => ⟨fun _ _ _ r h => by simp [spec_l05Down.l0] at h, fun _ _ _ _ r h => by simp [spec_l05Down.l1] at h⟩
  | k + 1 => by
   obtain ⟨ih0, ih1⟩ := spec_l05Down.mono_l k
   refine ⟨?_, ?_⟩ <;> intros
   all_goals first | unfold spec_l05Down.l0 | unfold spec_l05Down.l1
   all_goals repeat' first | (with_reducible first | apply ih0 | apply ih1 | exact LeO.refl _ | exact LeO.none _ | refine LeO.ite ?_ ?_ | refine LeO.bind ?_ (fun _ => ?_)) | apply ih0 | apply ih1 | exact LeO.none _ | refine LeO.ite ?_ ?_ | refine LeO.bind ?_ (fun _ => ?_)
theorem spec_l05Down.mono : ∀ a0 k, LeO (spec_l05Down.f k a0) (spec_l05Down.f (k + 1) a0) := by
  intro a0 k
  obtain ⟨ih0, ih1⟩ := spec_l05Down.mono_l k
  unfold spec_l05Down.f
  repeat' first | (with_reducible first | apply ih0 | apply ih1 | exact LeO.refl _ | exact LeO.none _ | refine LeO.ite ?_ ?_ | refine LeO.bind ?_ (fun _ => ?_)) | apply ih0 | apply ih1 | exact LeO.none _ | refine LeO.ite ?_ ?_ | refine LeO.bind ?_ (fun _ => ?_)
def spec_l05Down.T8 : Bool × List (List Nat × List Nat) := (true, [([], []), ([], []), ([0, 1], [0, 1]), ([2], [2]), ([], []), ([], []), ([4, 5], [4, 5]), ([6], [6]), ([], []), ([7, 8], [7, 8]), ([9], [9]), ([3, 10], [3, 10]), ([0, 1, 0, 1, 2, 3, 4, 5, 6, 7, 8, 9, 10, 11], [0, 1]), ([12, 11, 0, 1, 2, 3, 4, 5, 6, 7, 8, 9, 10, 11], [11, 12])])
def spec_l05Down.B8 : List Nat := [0, 0, 3, 7, 0, 0, 48, 112, 0, 496, 1008, 2047, 4095, 8191]
theorem spec_l05Down.tab8 : rtab .any (opsOf Try.f50 8) = spec_l05Down.T8 := by kernel_rfl
theorem spec_l05Down.bits8 : waitsOk spec_l05Down.T8.2 spec_l05Down.B8 = true := by kernel_rfl
set_option maxHeartbeats 8000000 in
set_option maxRecDepth 100000 in
theorem spec_l05Down.calls (k : Nat) (A0 : Option Addr) (c0 : Nat) (l0 : List (List Int)) (r : List Int) (w : World) (hr0 : Kd.C (Kd.slice 2 (Kd.int .i64)) w A0 l0.length l0) (hc0 : l0.length ≤ c0) (h : spec_l05Down.f k l0 = some r) :
    Calls Try.prog 50 #[.slice A0 l0.length c0] w fun e w' => ∃ v0_ : Value, e = .returned (v0_) ∧ Kd.R (Kd.int .i64) 2 w' w.heap.size (fun _ => True) v0_ r ∧ Below w.heap.size w w' := by
 have HR0 := mA hr0; have HC0 := mA hc0; clear hr0 hc0; have HB := mA (Below.refl w.heap.size w); have H : (if 0 < (l0.length : Int) then (if 0 ≤ ((rd_L1 l0 0).length : Int) then (if (((rd_L1 l0 0).length : Int) : Int).toNat ≤ 35184372088832 then (spec_l05Down.l0 k l0 (List.replicate (((rd_L1 l0 0).length : Int) : Int).toNat 0) 0) else (none)) else (none)) else (none)) = some r := h; clear h; obtain ⟨c2, H⟩ := sqI H; have c2b0 := decide_eq_true c2; have c2b1 : decide (0 < l0.length) = true := decide_eq_true (by omega); clear c2; obtain ⟨c3, H⟩ := sqI H; have c3b0 := eq_true c3; have c3b1 := decide_eq_true c3; clear c3; obtain ⟨c4, H⟩ := sqI H; have c4b0 := eq_true c4; have c4b1 := decide_eq_true c4; clear c4; obtain ⟨y142, hy142⟩ : ∃ y_ : List Int, y_ = (List.replicate (((rd_L1 l0 0).length : Int) : Int).toNat 0) := ⟨_, rfl⟩
 replace H : (spec_l05Down.l0 k l0 y142 0) = some r := by first | (rw [hy142]; with_reducible exact H) | (have H2_ := (Option.bind_some _ _).symm.trans H; rw [hy142]; with_reducible exact H2_) | (have H2_ := (Option.bind_some _ _).symm.trans H; with_reducible exact H2_) | with_reducible exact H | (rw [hy142]; exact H) | exact H
 have Ny142 := mA hy142; clear hy142; have H' := mA H; clear H; have p141 : 0 ≤ (0 : Int) := (by omega); have q141 : 0 < (l0.length : Int) := sqd; obtain ⟨ad141, A141_0, c141_0, e141, hx141_0, hl141_0, hi141_0⟩ := at_L1 HR0.out 0 p141 q141
 cases e141
 have qi141 : (0 < l0.length) = True := eq_true (by omega); (try rw [show ((0 : Int)).toNat = 0 from rfl] at hx141_0); (try rw [Addr.add_zero'] at hx141_0); have HR141_0 := mA hi141_0; have HC141_0 := mA hl141_0; clear hi141_0 hl141_0; replace p141 := eq_true p141; replace q141 := eq_true q141; go_enter Try.func50, Try.ntmps50; go_wp2_with (first | ((with_reducible refine gate_dst (N := 10) rfl ?_); refine Kd.R_make (Kd.int .i64) _ 2 rfl (N := 10) rfl 26 _ _ rfl ((rd_L1 l0 0).length : Int) rfl rfl Try.underlying26 (.int .i64 0) 8 info2 rfl (by decide) (by omega) 0 (ok := fun _ => True) (okp := fun _ => True) rfl (fun _ hk => hk) trivial (sqd) (Nat.le_trans (Nat.mul_le_mul_right _ (sqd : ((rd_L1 l0 0).length : Int).toNat ≤ 35184372088832)) (by omega)) (Below.refl _ _) (Nat.le_refl _) ?_; intro v143 w5 ho6 hb hg_ hnew_; clear hg_ hnew_; (first | rw [← Ny142.out] at ho6 | (simp only [Int.reduceToNat] at ho6; rw [← Ny142.out] at ho6)); have HO144 := mA (Kd.R_lower ho6 (below_size z4)); replace HB := mA (below_step z4 hb); clear hb ho6)); go_loopg [4] k (fun kq v4 w' => ∃ (x3_1 : List Int) (x4_1 : Int), v4 = .int .i64 x4_1 ∧ Aside0 (spec_l05Down.l0 kq l0 x3_1 x4_1 = some r) ∧ Aside0 (kq ≤ k) ∧ Aside0 (Kd.R (Kd.int .i64) 2 w' w.heap.size (fun _ => True) v143 x3_1) ∧ Aside0 (Below w.heap.size w w'))
 case atStart => exact ⟨(y142), (0), z5, H', ⟨Nat.le_refl _⟩, ⟨z0 HO144⟩, ⟨z4⟩⟩
 case round =>
  clear H'; (try clear c1); (try clear p1); (try clear q1); (try clear hx1); (try clear qi1); (try clear c2); (try clear c2b0); (try clear c2b1); (try clear p2); (try clear c3); (try clear c3b0); (try clear c3b1); (try clear c4); (try clear c4b0); (try clear c4b1); (try clear c5); (try clear hx141_0); (try clear p141); (try clear q141); obtain ⟨x3_1, x4_1, rfl, HA, HK1, HO_3, HB⟩ := hrel
  cases gk with
  | zero => exact absurd HA.out (by simp [spec_l05Down.l0])
  | succ k1 =>
   have H := HA.out; clear HA; simp only [spec_l05Down.l0] at H; refine sqC (x4_1 < (l0.length : Int)) (fun c7 => ?_) (fun c7 => ?_)
   ·rw [if_neg c7] at H; replace c7 := decide_eq_false c7; obtain rfl := Option.some.inj H; go_wp2; go_ret; exact ⟨_, z7, z0 HO_3, z4⟩
   rw [if_pos c7] at H; replace c7 := decide_eq_true c7; have H' := mA H; clear H; go_wp2; go_loopg [5] k1 (fun kq v5 w' => ∃ (x3_2 : List Int) (x5_2 : Int), v5 = .int .i64 x5_2 ∧ Aside0 (spec_l05Down.l1 kq l0 x3_2 x4_1 x5_2 = some r) ∧ Aside0 (kq ≤ k1) ∧ Aside0 (Kd.R (Kd.int .i64) 2 w' w.heap.size (fun _ => True) v143 x3_2) ∧ Aside0 (Below w.heap.size w w'))
   case atStart => exact ⟨(x3_1), (0), z5, H', ⟨Nat.le_refl _⟩, ⟨z0 HO_3⟩, ⟨z4⟩⟩
   case round =>
    clear H'; (try clear c1); (try clear p1); (try clear q1); (try clear hx1); (try clear qi1); (try clear c2); (try clear c2b0); (try clear c2b1); (try clear p2); (try clear c3); (try clear c3b0); (try clear c3b1); (try clear c4); (try clear c4b0); (try clear c4b1); (try clear c5); (try clear c7); (try clear c7b0); (try clear hx141_0); (try clear p1); (try clear p141); (try clear p2); (try clear q1); (try clear q141); obtain ⟨x3_2, x5_2, rfl, HA, HK2, HO_3, HB⟩ := hrel
    cases gk with
    | zero => exact absurd HA.out (by simp [spec_l05Down.l1])
    | succ k2 =>
     have H := HA.out; clear HA; simp only [spec_l05Down.l1] at H; obtain ⟨c8, H⟩ := sqI H; replace c8 := decide_eq_true c8; obtain ⟨c9, H⟩ := sqI H; replace c9 := decide_eq_true c9; refine sqC (x5_2 < ((rd_L1 l0 x4_1).length : Int)) (fun c10 => ?_) (fun c10 => ?_)
     ·rw [if_neg c10] at H; replace c10 := decide_eq_false c10; have H' := mA H; clear H; have p145 : 0 ≤ (x4_1 : Int) := sqd; have q145 : x4_1 < (l0.length : Int) := sqd; obtain ⟨ad145, A145_0, c145_0, e145, hx145_0, hl145_0, hi145_0⟩ := at_L1 HR0.out x4_1 p145 q145; obtain rfl : ad141 = ad145 := (by injection e145); replace hx145_0 := sqh HB hx145_0; have HR145_0 := mA hi145_0; have HC145_0 := mA hl145_0; clear hi145_0 hl145_0; replace p145 := eq_true p145; replace q145 := eq_true q145; go_wp2; go_roundg k2
      case measure => have := HK1.out; have := HK2.out; omega
      case rel => exact ⟨(x3_2), (wrap64 (x4_1 + 1)), z5, H', ⟨by have := HK1.out; have := HK2.out; omega⟩, ⟨z0 HO_3⟩, ⟨z4⟩⟩
     rw [if_pos c10] at H; replace c10 := decide_eq_true c10; obtain ⟨c11, H⟩ := sqI H; replace c11 := decide_eq_true c11; obtain ⟨c12, H⟩ := sqI H; replace c12 := decide_eq_true c12; obtain ⟨y149, hy149⟩ : ∃ y_ : List Int, y_ = (x3_2.set (x5_2 : Int).toNat (wrap64 ((rd x3_2 x5_2) + (rd (rd_L1 l0 x4_1) x5_2)))) := ⟨_, rfl⟩
     replace H : (spec_l05Down.l1 k2 l0 y149 x4_1 (wrap64 (x5_2 + 1))) = some r := by first | (rw [hy149]; with_reducible exact H) | (have H2_ := (Option.bind_some _ _).symm.trans H; rw [hy149]; with_reducible exact H2_) | (have H2_ := (Option.bind_some _ _).symm.trans H; with_reducible exact H2_) | with_reducible exact H | (rw [hy149]; exact H) | exact H
     have Ny149 := mA hy149; clear hy149; have H' := mA H; clear H; have p145 : 0 ≤ (x4_1 : Int) := sqd; have q145 : x4_1 < (l0.length : Int) := sqd; obtain ⟨ad145, A145_0, c145_0, e145, hx145_0, hl145_0, hi145_0⟩ := at_L1 HR0.out x4_1 p145 q145; obtain rfl : ad141 = ad145 := (by injection e145); replace hx145_0 := sqh HB hx145_0; have HR145_0 := mA hi145_0; have HC145_0 := mA hl145_0; clear hi145_0 hl145_0; replace p145 := eq_true p145; replace q145 := eq_true q145; (try go_wp2); replace HO_3 := mA (Kd.R_drew HO_3.out); replace HB := mA (below_drew1 HB.out); obtain ⟨Ao15, co15, eo15⟩ := Kd.R_slice HO_3.out; (first | subst eo15 | (injection eo15 with f1_ f2_ f3_; have f4_ := f1_.symm; have f5_ := f3_.symm; clear f1_ f2_ f3_; subst f4_; subst f5_)); have p146 : 0 ≤ (x5_2 : Int) := sqd; have q146 : x5_2 < (x3_2.length : Int) := sqd; obtain ⟨ad146, e146, hx146_0⟩ := Kd.at_int (Kd.R_reads' HO_3.out).2.2 x5_2 p146 q146
     cases e146
     replace p146 := eq_true p146; replace q146 := eq_true q146; have p147 : 0 ≤ (x4_1 : Int) := sqd; have q147 : x4_1 < (l0.length : Int) := sqd; obtain ⟨ad147, A147_0, c147_0, e147, hx147_0, hl147_0, hi147_0⟩ := at_L1 HR0.out x4_1 p147 q147; have hw147_0 := hx147_0; obtain rfl : ad141 = ad147 := (by injection e147); replace hx147_0 := sqh HB hx147_0; have HR147_0 := mA hi147_0; have HC147_0 := mA hl147_0; clear hi147_0 hl147_0; replace p147 := eq_true p147; replace q147 := eq_true q147; have p148 : 0 ≤ (x5_2 : Int) := sqd; have q148 : x5_2 < ((rd_L1 l0 x4_1).length : Int) := sqd; obtain ⟨ad148, e148, hx148_0⟩ := Kd.at_int HR147_0.out x5_2 p148 q148; have hw148_0 := hx148_0
     cases e148
     replace hx148_0 := sqh HB hx148_0; replace p148 := eq_true p148; replace q148 := eq_true q148; have p13 : 0 ≤ (x5_2 : Int) := sqd; have q13 : (x5_2 : Int) < ((x3_2.length : Int) : Int) := sqd; obtain ⟨go13, co13, eo13, gb13, gl13, cl13, HG13⟩ := Kd.R_form HO_3.out (by omega); (first | cases eo13 | (injection eo13 with ea_ en_ ec_; (first | subst ea_ | (injection ea_ with ea_; subst ea_)); subst ec_; clear en_)); have GB13 := mA gb13; have GG13 := mA HG13; clear gb13 gl13 HG13; (first | simp only [add_plain] at hx146_0 | skip); obtain ⟨hx13_0, hf13_0⟩ := Kd.R_celln 0 HO_3.out (x5_2 : Int) p13 q13; replace p13 := eq_true p13; replace q13 := eq_true q13; have HP16 := Kd.R_putn HO_3.out (x5_2 : Int) (wrap64 ((rd x3_2 x5_2) + (rd (rd_L1 l0 x4_1) x5_2))); rw [← Ny149.out] at HP16; have HQ16 := mA HP16; clear HP16; refine start_ (n := 14) (S := fun w' => w'.cell? ⟨go13, (x5_2).toNat, none⟩ = some (.int .i64 (rd x3_2 x5_2)) ∧ w'.cell? (ad141.add (x4_1).toNat) = some (.slice (some ad148) (rd_L1 l0 x4_1).length c147_0) ∧ w'.cell? (ad148.add (x5_2).toNat) = some (.int .i64 (rd (rd_L1 l0 x4_1) x5_2))) (ds := [13]) #[false, false, false, false, false, false, false, false, false, false, false, false, false, false] (by kernel_rfl) rfl rfl ⟨hx146_0, ((HB.out.cell (World.block_lt_of_cell? w _ hw147_0)).trans hw147_0), ((HB.out.cell (World.block_lt_of_cell? w _ hw148_0)).trans hw148_0)⟩ (fun hHeld => ?_); refine with_tabW spec_l05Down.tab8 spec_l05Down.bits8 (fun HT_ HW_ => ?_); generalize wr.drew = w14 at HO_3 HB GG13 HQ16 HR147_0 hf13_0 hx13_0 hx146_0 hx147_0 hx148_0 hHeld ⊢; refine sqr0 0 (some 26) ?_; refine sqr0 1 (some 27) ?_; refine sqr0 2 (some 28) ?_; refine sqr0 4 (some 30) ?_; refine sqr0 5 (some 31) ?_; refine sqr0 6 (some 32) ?_; refine sqr0 8 (some 34) ?_; refine sqr4 3 (some 29) ?_; refine sqr4 7 (some 33) ?_; refine sqr0 9 (some 35) ?_; refine sqr4 10 (some 36) ?_; refine sqr0 11 (some 37) ?_; refine sqr0 12 (some 38) ?_; refine last_ (i := 13) (N := none) #[true, true, true, true, true, true, true, true, true, true, true, true, true, true] rfl rfl (one_of HT_.out (by kernel_rfl)) (by decide) (fun K hK => ?_); refine skip_ (w1 := ?_) (by rfl) rfl ?_ ?_; rotate_left
     ·go_simp; rfl
     refine hK.out _ _ ?_; clear hK K; refine done_ (done_of HT_.out (by kernel_rfl)) ?_; (try go_wp2); go_roundg k2
     case measure => have := HK1.out; have := HK2.out; omega
     case rel => exact ⟨(y149), (wrap64 (x5_2 + 1)), z5, H', ⟨by have := HK1.out; have := HK2.out; omega⟩, ⟨z0 HQ16⟩, ⟨by repeat (first | (with_reducible first | exact HB.out | apply below_alloc | apply pw_below_drewN | apply below_drew1 | refine below_set ?_ GB13.out) | exact HB.out)⟩⟩

/-! ### spec_l00In: function 87 -/
def spec_l00In.f (a0 : Int) (a1 : Int) (a2 : Int) : Option (Bool) := if a0 ≥ a1 then (some (decide (a0 ≤ a2))) else (some false)
set_option maxHeartbeats 8000000 in
set_option maxRecDepth 100000 in
theorem spec_l00In.calls (a0 : Int) (a1 : Int) (a2 : Int) (r : Bool) (w : World) (h : spec_l00In.f a0 a1 a2 = some r) :
    Calls Try.prog 87 #[.int .i64 a0, .int .i64 a1, .int .i64 a2] w fun e w' => e = .returned (.bool r) ∧ Drawn0 w w' := by
 have H : (if a0 ≥ a1 then (some (decide (a0 ≤ a2))) else (some false)) = some r := h; clear h; by_cases c4 : a0 ≥ a1
 ·rw [if_pos c4] at H; replace c4 := decide_eq_true c4; obtain rfl := Option.some.inj H; go_enter Try.func87, Try.ntmps87; go_wp2; go_ret; exact ⟨z5, z9⟩
 rw [if_neg c4] at H; replace c4 := decide_eq_false c4; obtain rfl := Option.some.inj H; go_enter Try.func87, Try.ntmps87; go_wp2; go_ret; exact ⟨z5, z9⟩

/-! ### spec_l05Side: function 88 -/
def spec_l05Side.f (a0 : Int) : Option (Bool) := if a0 ≥ 1 then (some (decide (a0 ≤ 5))) else (some false)
set_option maxHeartbeats 8000000 in
set_option maxRecDepth 100000 in
theorem spec_l05Side.calls (a0 : Int) (r : Bool) (w : World) (h : spec_l05Side.f a0 = some r) :
    Calls Try.prog 88 #[.int .i64 a0] w fun e w' => e = .returned (.bool r) ∧ Drawn0 w w' := by
 have H : (if a0 ≥ 1 then (some (decide (a0 ≤ 5))) else (some false)) = some r := h; clear h; by_cases c2 : a0 ≥ 1
 ·rw [if_pos c2] at H; replace c2 := decide_eq_true c2; obtain rfl := Option.some.inj H; go_enter Try.func88, Try.ntmps88; go_wp2; go_ret; exact ⟨z5, z9⟩
 rw [if_neg c2] at H; replace c2 := decide_eq_false c2; obtain rfl := Option.some.inj H; go_enter Try.func88, Try.ntmps88; go_wp2; go_ret; exact ⟨z5, z9⟩

end Go.Proofs.Ytmjabeddommiaaa.PFnExactIsMarginRounding
