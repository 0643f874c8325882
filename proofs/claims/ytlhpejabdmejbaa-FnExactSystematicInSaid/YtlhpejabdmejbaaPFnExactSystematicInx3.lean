/- Written by this session's program (wip/tool/xprint.py) over the kit's printer. -/
import Derived.Test.YtlhpejabdmejbaaPFnExactSystematicInx0
import Derived.Test.YtlhpejabdmejbaaPFnExactSystematicInx2
namespace Go.Proofs.Ytlhpejabdmejbaa.PFnExactSystematicIn
open Go.RowKit Go.Proofs.YtlhpejabdmejbaaW.PrintWords Go.Proofs.YtlhpejabdmejbaaW.PrintLast Go.Proofs.YtlhpejabdmejbaaW.PrintMore
attribute [local go_sem] max2_int min2_int max_two min_two max_three min_three max_four min_four   -- for this text's walks alone
set_option linter.unusedVariables false
set_option linter.unusedSimpArgs false

/-! ### spec_l06Order: function 91 -/
def spec_l06Order.l0 : Nat → List Int → Int → List Bool → Int → Option (Bool)
  | 0, _, _, _, _ => none
  | k + 1, x0, x1, x5, x6 => if x6 < (x0.length : Int) then (if 0 ≤ x6 then ((spec_l00In.f (rd x0 x6) 0 (wrap64 (x1 - 1))).bind fun t143 => (if t143 = true then (if 0 ≤ (rd x0 x6) then (if (rd x0 x6) < (x5.length : Int) then (if rdOf false x5 (rd x0 x6) = true then (some false) else (spec_l06Order.l0 k x0 x1 (x5.set ((rd x0 x6) : Int).toNat true) (wrap64 (x6 + 1)))) else (none)) else (none)) else (some false))) else (none)) else (some ((x0.length : Int) == x1))
def spec_l06Order.f (k : Nat) (l0 : List Int) (a1 : Int) : Option (Bool) := if 0 ≤ a1 then (if (a1 : Int).toNat ≤ 281474976710656 then (spec_l06Order.l0 k l0 a1 (List.replicate (a1 : Int).toNat false) 0) else (none)) else (none)
theorem spec_l06Order.mono_l : ∀ k, (∀ y0 y1 y2 y3, LeO (spec_l06Order.l0 k y0 y1 y2 y3) (spec_l06Order.l0 (k + 1) y0 y1 y2 y3))
  | 0 => fun _ _ _ _ r h => by simp [spec_l06Order.l0] at h
  | k + 1 => by
   have ih0 := spec_l06Order.mono_l k
   intros
   unfold spec_l06Order.l0
   all_goals repeat' first | (with_reducible first | apply ih0 | exact LeO.refl _ | exact LeO.none _ | refine LeO.ite ?_ ?_ | refine LeO.bind ?_ (fun _ => ?_)) | apply ih0 | exact LeO.none _ | refine LeO.ite ?_ ?_ | refine LeO.bind ?_ (fun _ => ?_)
theorem spec_l06Order.mono : ∀ a0 a1 k, LeO (spec_l06Order.f k a0 a1) (spec_l06Order.f (k + 1) a0 a1) := by
  intro a0 a1 k
  have ih0 := spec_l06Order.mono_l k
  unfold spec_l06Order.f
  repeat' first | (with_reducible first | apply ih0 | exact LeO.refl _ | exact LeO.none _ | refine LeO.ite ?_ ?_ | refine LeO.bind ?_ (fun _ => ?_)) | apply ih0 | exact LeO.none _ | refine LeO.ite ?_ ?_ | refine LeO.bind ?_ (fun _ => ?_)
set_option maxHeartbeats 8000000 in
set_option maxRecDepth 100000 in
theorem spec_l06Order.calls (k : Nat) (A0 : Option Addr) (c0 : Nat) (l0 : List Int) (a1 : Int) (r : Bool) (w : World) (hr0 : Kd.C (Kd.int .i64) w A0 l0.length l0) (hc0 : l0.length ≤ c0) (h : spec_l06Order.f k l0 a1 = some r) :
    Calls Try.prog 91 #[.slice A0 l0.length c0, .int .i64 a1] w fun e w' => e = .returned (.bool r) ∧ Below w.heap.size w w' := by
 have HR0 := mA hr0; have HC0 := mA hc0; clear hr0 hc0; have HB := mA (Below.refl w.heap.size w); have H : (if 0 ≤ a1 then (if (a1 : Int).toNat ≤ 281474976710656 then (spec_l06Order.l0 k l0 a1 (List.replicate (a1 : Int).toNat false) 0) else (none)) else (none)) = some r := h; clear h; obtain ⟨c3, H⟩ := sqI H; have c3b0 := eq_true c3; have c3b1 := decide_eq_true c3; clear c3; obtain ⟨c4, H⟩ := sqI H; have c4b0 := eq_true c4; have c4b1 : decide ((a1 : Int).toNat ≤ 281474976710656) = true := decide_eq_true c4; clear c4; obtain ⟨y139, hy139⟩ : ∃ y_ : List Bool, y_ = (List.replicate (a1 : Int).toNat false) := ⟨_, rfl⟩
 replace H : (spec_l06Order.l0 k l0 a1 y139 0) = some r := by first | (rw [hy139]; with_reducible exact H) | (have H2_ := (Option.bind_some _ _).symm.trans H; rw [hy139]; with_reducible exact H2_) | (have H2_ := (Option.bind_some _ _).symm.trans H; with_reducible exact H2_) | with_reducible exact H | (rw [hy139]; exact H) | exact H
 have Ny139 := mA hy139; clear hy139; have H' := mA H; clear H; go_enter Try.func91, Try.ntmps91; go_wp2_with (first | ((with_reducible refine gate_dst (N := 8) rfl ?_); refine Kd.R_make Kd.bool _ 4 rfl (N := 8) rfl 113 _ _ rfl a1 rfl rfl Try.underlying113 (.bool false) 1 info4 rfl (by decide) (by omega) false (ok := fun _ => True) (okp := fun _ => True) rfl (fun _ hk => hk) trivial (sqd) (Nat.le_trans (Nat.mul_le_mul_right _ (sqd : a1.toNat ≤ 281474976710656)) (by omega)) (Below.refl _ _) (Nat.le_refl _) ?_; intro v140 w5 ho6 hb hg_ hnew_; clear hg_ hnew_; (first | rw [← Ny139.out] at ho6 | (simp only [Int.reduceToNat] at ho6; rw [← Ny139.out] at ho6)); have HO141 := mA (Kd.R_lower ho6 (below_size zq1)); replace HB := mA (below_step zq1 hb); clear hb ho6)); go_loopg [6] k (fun kq v6 w' => ∃ (x5_1 : List Bool) (x6_1 : Int), v6 = .int .i64 x6_1 ∧ Aside0 (spec_l06Order.l0 kq l0 a1 x5_1 x6_1 = some r) ∧ Aside0 (kq ≤ k) ∧ Aside0 (Kd.R Kd.bool 4 w' w.heap.size (fun _ => True) v140 x5_1) ∧ Aside0 (Below w.heap.size w w'))
 case atStart => exact ⟨(y139), (0), zq4, H', ⟨Nat.le_refl _⟩, ⟨zq3 HO141⟩, ⟨zq1⟩⟩
 case round =>
  clear H'; (try clear p2); (try clear c3); (try clear c3b0); (try clear c3b1); (try clear c4); (try clear c4b0); (try clear c4b1); obtain ⟨x5_1, x6_1, rfl, HA, HK1, HO_5, HB⟩ := hrel
  cases gk with
  | zero => exact absurd HA.out (by simp [spec_l06Order.l0])
  | succ k1 =>
   have H := HA.out; clear HA; simp only [spec_l06Order.l0] at H; refine sqC (x6_1 < (l0.length : Int)) (fun c7 => ?_) (fun c7 => ?_)
   ·rw [if_neg c7] at H; replace c7 := decide_eq_false c7; obtain rfl := Option.some.inj H; go_wp2; go_ret; exact ⟨zq6, zq1⟩
   rw [if_pos c7] at H; replace c7 := decide_eq_true c7; obtain ⟨c8, H⟩ := sqI H; have c8b0 : decide (0 ≤ x6_1) = true := decide_eq_true c8; clear c8; obtain ⟨t143, A9, H⟩ := sqB H; refine sqC (t143 = true) (fun c10 => ?_) (fun c10 => ?_)
   ·replace c10 := Bool.eq_false_iff.mpr c10; subst c10; rw [if_neg (show ¬ (false = true) by decide)] at H; obtain rfl := Option.some.inj H; have p142 : 0 ≤ (x6_1 : Int) := sqd; have q142 : x6_1 < (l0.length : Int) := sqd; obtain ⟨ad142, e142, hx142_0⟩ := Kd.at_int HR0.out x6_1 p142 q142
    cases e142
    replace hx142_0 := sqh HB hx142_0; replace p142 := eq_true p142; replace q142 := eq_true q142; go_wp2_with (first | (refine sqG 63 (some 21) Try.func63 #[.int .i64 (rd l0 x6_1), .int .i64 0, .int .i64 (wrap64 (a1 - 1))] (h := ?_); (with_reducible refine (spec_l00In.calls (rd l0 x6_1) 0 (wrap64 (a1 - 1)) false _ A9.out).mono ?_); rintro e w' ⟨rfl, ⟨nd, rfl⟩⟩; refine ⟨_, rfl, ?_⟩)); go_ret; exact ⟨zq6, zq1⟩
   subst c10; rw [if_pos rfl] at H; obtain ⟨c11, H⟩ := sqI H; replace c11 := decide_eq_true c11; obtain ⟨c12, H⟩ := sqI H; replace c12 := decide_eq_true c12; obtain ⟨bq13, hbq13⟩ : ∃ b_ : Bool, b_ = (rdOf false x5_1 (rd l0 x6_1)) := ⟨_, rfl⟩
   replace H : (if bq13 = true then (some false) else (spec_l06Order.l0 k1 l0 a1 (x5_1.set ((rd l0 x6_1) : Int).toNat true) (wrap64 (x6_1 + 1)))) = some r := by rw [← hbq13] at H; exact H
   have Nbq13 := mA hbq13; clear hbq13; by_cases c14 : bq13 = true
   ·subst c14; rw [if_pos rfl] at H; obtain rfl := Option.some.inj H; have p142 : 0 ≤ (x6_1 : Int) := sqd; have q142 : x6_1 < (l0.length : Int) := sqd; obtain ⟨ad142, e142, hx142_0⟩ := Kd.at_int HR0.out x6_1 p142 q142
    cases e142
    replace hx142_0 := sqh HB hx142_0; replace p142 := eq_true p142; replace q142 := eq_true q142; go_wp2_with (first | (refine sqG 63 (some 21) Try.func63 #[.int .i64 (rd l0 x6_1), .int .i64 0, .int .i64 (wrap64 (a1 - 1))] (h := ?_); (with_reducible refine (spec_l00In.calls (rd l0 x6_1) 0 (wrap64 (a1 - 1)) true _ A9.out).mono ?_); rintro e w' ⟨rfl, ⟨nd, rfl⟩⟩; refine ⟨_, rfl, ?_⟩; have p144 : 0 ≤ (x6_1 : Int) := sqd; have q144 : x6_1 < (l0.length : Int) := sqd; obtain ⟨ad144, e144, hx144_0⟩ := Kd.at_int HR0.out x6_1 p144 q144; obtain rfl : ad142 = ad144 := (by injection e144); replace hx144_0 := sqh HB hx144_0; replace p144 := eq_true p144; replace q144 := eq_true q144; obtain ⟨Ao15, co15, eo15⟩ := Kd.R_slice HO_5.out; subst eo15; have p145 : 0 ≤ ((rd l0 x6_1) : Int) := sqd; have q145 : (rd l0 x6_1) < (x5_1.length : Int) := sqd; obtain ⟨ad145, e145, hx145_0⟩ := Kd.at_bool (Kd.R_reads' HO_5.out).2.2 (rd l0 x6_1) p145 q145; (try rw [← Nbq13.out] at hx145_0); cases e145; replace p145 := eq_true p145; replace q145 := eq_true q145)); go_ret; exact ⟨zq6, zq1⟩
   replace c14 := Bool.eq_false_iff.mpr c14; subst c14; rw [if_neg (show ¬ (false = true) by decide)] at H; obtain ⟨y147, hy147⟩ : ∃ y_ : List Bool, y_ = (x5_1.set ((rd l0 x6_1) : Int).toNat true) := ⟨_, rfl⟩
   replace H : (spec_l06Order.l0 k1 l0 a1 y147 (wrap64 (x6_1 + 1))) = some r := by first | (rw [hy147]; with_reducible exact H) | (have H2_ := (Option.bind_some _ _).symm.trans H; rw [hy147]; with_reducible exact H2_) | (have H2_ := (Option.bind_some _ _).symm.trans H; with_reducible exact H2_) | with_reducible exact H | (rw [hy147]; exact H) | exact H
   have Ny147 := mA hy147; clear hy147; have H' := mA H; clear H; have p142 : 0 ≤ (x6_1 : Int) := sqd; have q142 : x6_1 < (l0.length : Int) := sqd; obtain ⟨ad142, e142, hx142_0⟩ := Kd.at_int HR0.out x6_1 p142 q142
   cases e142
   replace hx142_0 := sqh HB hx142_0; replace p142 := eq_true p142; replace q142 := eq_true q142
   go_wp2_with (first | (refine sqG 63 (some 21) Try.func63 #[.int .i64 (rd l0 x6_1), .int .i64 0, .int .i64 (wrap64 (a1 - 1))] (h := ?_); (with_reducible refine (spec_l00In.calls (rd l0 x6_1) 0 (wrap64 (a1 - 1)) true _ A9.out).mono ?_); rintro e w' ⟨rfl, ⟨nd, rfl⟩⟩; refine ⟨_, rfl, ?_⟩; (try (rw [drewN_self wr]; generalize hq_ : World.drewN wr _ = wr; have n0_ : Aside0 (Kd.R Kd.bool 4 wr w.heap.size (fun _ => True) v140 x5_1) := ⟨zq17 HO_5⟩; have n1_ : Aside0 (Below w.heap.size w wr) := ⟨by rw [← hq_]; exact zq1⟩; clear HO_5 HB hq_; have HO_5 := n0_; have HB := n1_; clear n0_ n1_)); have p144 : 0 ≤ (x6_1 : Int) := sqd; have q144 : x6_1 < (l0.length : Int) := sqd; obtain ⟨ad144, e144, hx144_0⟩ := Kd.at_int HR0.out x6_1 p144 q144; obtain rfl : ad142 = ad144 := (by injection e144); replace hx144_0 := sqh HB hx144_0; replace p144 := eq_true p144; replace q144 := eq_true q144; obtain ⟨Ao17, co17, eo17⟩ := Kd.R_slice HO_5.out; subst eo17; have p145 : 0 ≤ ((rd l0 x6_1) : Int) := sqd; have q145 : (rd l0 x6_1) < (x5_1.length : Int) := sqd; obtain ⟨ad145, e145, hx145_0⟩ := Kd.at_bool (Kd.R_reads' HO_5.out).2.2 (rd l0 x6_1) p145 q145; (try rw [← Nbq13.out] at hx145_0); cases e145; replace p145 := eq_true p145; replace q145 := eq_true q145; have p146 : 0 ≤ (x6_1 : Int) := sqd; have q146 : x6_1 < (l0.length : Int) := sqd; obtain ⟨ad146, e146, hx146_0⟩ := Kd.at_int HR0.out x6_1 p146 q146; obtain rfl : ad142 = ad146 := (by injection e146); replace hx146_0 := sqh HB hx146_0; replace p146 := eq_true p146; replace q146 := eq_true q146; have p16 : 0 ≤ ((rd l0 x6_1) : Int) := sqd; have q16 : ((rd l0 x6_1) : Int) < ((x5_1.length : Int) : Int) := sqd; obtain ⟨go16, co16, eo16, gb16, gl16, cl16, HG16⟩ := Kd.R_form HO_5.out (by omega); (first | cases eo16 | (injection eo16 with ea_ en_ ec_; (first | subst ea_ | (injection ea_ with ea_; subst ea_)); subst ec_; clear en_)); have GB16 := mA gb16; have GG16 := mA HG16; clear gb16 gl16 HG16; (first | simp only [add_plain] at hx145_0 | skip); obtain ⟨hx16_0, hf16_0⟩ := Kd.R_celln false HO_5.out ((rd l0 x6_1) : Int) p16 q16; replace p16 := eq_true p16; replace q16 := eq_true q16; obtain ⟨hy18_, hz18_⟩ := Kd.R_celln false HO_5.out ((rd l0 x6_1) : Int) (sqd) (sqd); have HP18 := Kd.R_putg HO_5.out ((rd l0 x6_1) : Int) true) | ((with_reducible refine gate_store (t := 4) (p := 37) rfl ?_); refine store_event (t := 4) (p := 37) (v := ?vo_w19) (w1 := (wr.setCell ⟨go16, ((rd l0 x6_1) : Int).toNat, none⟩ (.bool true))) ?hg ?ho ?hn ?hr ?_; (case ho => rfl); (case hg => rfl); (case hn => rfl); (case hr => exact zq11); intro w19 hw; have hg : wr.grownBy w19 (some go16) := (by rw [hw]; exact HP18.2); have hp_ : Kd.R Kd.bool 4 w19 w.heap.size (fun _ => True) (.slice (some ⟨go16, 0, none⟩) x5_1.length co17) y147 := (by rw [hw, Ny147.out]; exact HP18.1); clear HP18; replace HO_5 := mA (hp_); replace HB := mA ((zq13 GB16 : Below w.heap.size w w19)); clear hg hw hp_)); go_roundg k1
   case measure => have := HK1.out; omega
   case rel => exact ⟨(y147), (wrap64 (x6_1 + 1)), zq4, H', ⟨by have := HK1.out; omega⟩, ⟨zq3 HO_5⟩, ⟨zq1⟩⟩

/-! ### spec_l00Same: function 115 -/
def spec_l00Same.l0 : Nat → List Int → List Int → Int → Option (Bool)
  | 0, _, _, _ => none
  | k + 1, x0, x1, x5 => if x5 < (x0.length : Int) then (if 0 ≤ x5 then (if x5 < (x1.length : Int) then (if (rd x0 x5) = (rd x1 x5) then (spec_l00Same.l0 k x0 x1 (wrap64 (x5 + 1))) else (some false)) else (none)) else (none)) else (some true)
def spec_l00Same.f (k : Nat) (l0 : List Int) (l1 : List Int) : Option (Bool) := if (l0.length : Int) = (l1.length : Int) then (spec_l00Same.l0 k l0 l1 0) else (some false)
theorem spec_l00Same.mono_l : ∀ k, (∀ y0 y1 y2, LeO (spec_l00Same.l0 k y0 y1 y2) (spec_l00Same.l0 (k + 1) y0 y1 y2))
  | 0 => fun _ _ _ r h => by simp [spec_l00Same.l0] at h
  | k + 1 => by
   have ih0 := spec_l00Same.mono_l k
   intros
   unfold spec_l00Same.l0
   all_goals repeat' first | (with_reducible first | apply ih0 | exact LeO.refl _ | exact LeO.none _ | refine LeO.ite ?_ ?_ | refine LeO.bind ?_ (fun _ => ?_)) | apply ih0 | exact LeO.none _ | refine LeO.ite ?_ ?_ | refine LeO.bind ?_ (fun _ => ?_)
theorem spec_l00Same.mono : ∀ a0 a1 k, LeO (spec_l00Same.f k a0 a1) (spec_l00Same.f (k + 1) a0 a1) := by
  intro a0 a1 k
  have ih0 := spec_l00Same.mono_l k
  unfold spec_l00Same.f
  repeat' first | (with_reducible first | apply ih0 | exact LeO.refl _ | exact LeO.none _ | refine LeO.ite ?_ ?_ | refine LeO.bind ?_ (fun _ => ?_)) | apply ih0 | exact LeO.none _ | refine LeO.ite ?_ ?_ | refine LeO.bind ?_ (fun _ => ?_)
set_option maxHeartbeats 8000000 in
set_option maxRecDepth 100000 in
theorem spec_l00Same.calls (k : Nat) (A0 : Option Addr) (c0 : Nat) (l0 : List Int) (A1 : Option Addr) (c1 : Nat) (l1 : List Int) (r : Bool) (w : World) (hr0 : Kd.C (Kd.int .i64) w A0 l0.length l0) (hc0 : l0.length ≤ c0) (hr1 : Kd.C (Kd.int .i64) w A1 l1.length l1) (hc1 : l1.length ≤ c1) (h : spec_l00Same.f k l0 l1 = some r) :
    Calls Try.prog 115 #[.slice A0 l0.length c0, .slice A1 l1.length c1] w fun e w' => e = .returned (.bool r) ∧ Drawn0 w w' := by
 have HR0 := mA hr0; have HC0 := mA hc0; clear hr0 hc0; have HR1 := mA hr1; have HC1 := mA hc1; clear hr1 hc1; have H : (if (l0.length : Int) = (l1.length : Int) then (spec_l00Same.l0 k l0 l1 0) else (some false)) = some r := h; clear h; refine sqC ((l0.length : Int) = (l1.length : Int)) (fun c3 => ?_) (fun c3 => ?_)
 ·rw [if_neg c3] at H; have c3b0 : ((l0.length : Int) == (l1.length : Int)) = false := beq_eq_false_iff_ne.mpr c3; have c3b1 : ((l0.length : Int) != (l1.length : Int)) = true := bne_iff_ne.mpr c3
  have c3b2 : (l0.length == l1.length) = false := by first | simpa using c3 | (simp at c3 ⊢; omega)
  obtain rfl := Option.some.inj H; go_enter Try.func115, Try.ntmps115; go_wp2
  repeat (go_quiet (fail); try go_wp2)
  go_ret; exact ⟨zq4, zq7⟩
 rw [if_pos c3] at H; have c3b0 : ((l0.length : Int) == (l1.length : Int)) = true := beq_iff_eq.mpr c3; have c3b1 : ((l0.length : Int) != (l1.length : Int)) = false := bne_eq_false_iff_eq.mpr c3
 have c3b2 : (l0.length == l1.length) = true := by first | simpa using c3 | (simp at c3 ⊢; omega)
 clear c3; have H' := mA H; clear H; go_enter Try.func115, Try.ntmps115; go_wp2
 repeat (go_quiet (fail); try go_wp2)
 go_loopg [5] k (fun kq v5 w' => ∃ (x5_1 : Int), v5 = .int .i64 x5_1 ∧ Aside0 (spec_l00Same.l0 kq l0 l1 x5_1 = some r) ∧ Aside0 (kq ≤ k) ∧ Drawn0 w w')
 case atStart => exact ⟨(0), zq4, H', ⟨Nat.le_refl _⟩, zq7⟩
 case round =>
  clear H'; (try clear c1); (try clear p2); (try clear c3); (try clear c3b0); (try clear c3b1); (try clear c3b2); obtain ⟨x5_1, rfl, HA, HK1, ⟨m1, rfl⟩⟩ := hrel
  cases gk with
  | zero => exact absurd HA.out (by simp [spec_l00Same.l0])
  | succ k1 =>
   have H := HA.out; clear HA; simp only [spec_l00Same.l0] at H; refine sqC (x5_1 < (l0.length : Int)) (fun c4 => ?_) (fun c4 => ?_)
   ·rw [if_neg c4] at H; have c4b0 : decide (x5_1 < (l0.length : Int)) = false := decide_eq_false c4; clear c4; obtain rfl := Option.some.inj H; go_wp2
    repeat (go_quiet (fail); try go_wp2)
    go_ret; exact ⟨zq4, zq7⟩
   rw [if_pos c4] at H; have c4b0 : decide (x5_1 < (l0.length : Int)) = true := decide_eq_true c4; clear c4; obtain ⟨c5, H⟩ := sqI H; replace c5 := decide_eq_true c5; obtain ⟨c6, H⟩ := sqI H; replace c6 := decide_eq_true c6; refine sqC ((rd l0 x5_1) = (rd l1 x5_1)) (fun c7 => ?_) (fun c7 => ?_)
   ·rw [if_neg c7] at H; have c7b0 : ((rd l0 x5_1) == (rd l1 x5_1)) = false := beq_eq_false_iff_ne.mpr c7; have c7b1 : ((rd l0 x5_1) != (rd l1 x5_1)) = true := bne_iff_ne.mpr c7; obtain rfl := Option.some.inj H; have p148 : 0 ≤ (x5_1 : Int) := sqd; have q148 : x5_1 < (l0.length : Int) := sqd; obtain ⟨ad148, e148, hx148_0⟩ := Kd.at_int HR0.out x5_1 p148 q148
    cases e148
    replace p148 := eq_true p148; replace q148 := eq_true q148; have p149 : 0 ≤ (x5_1 : Int) := sqd; have q149 : x5_1 < (l1.length : Int) := sqd; obtain ⟨ad149, e149, hx149_0⟩ := Kd.at_int HR1.out x5_1 p149 q149
    cases e149
    replace p149 := eq_true p149; replace q149 := eq_true q149; go_wp2
    repeat (go_quiet (fail); try go_wp2)
    go_ret; exact ⟨zq4, zq7⟩
   rw [if_pos c7] at H; have c7b0 : ((rd l0 x5_1) == (rd l1 x5_1)) = true := beq_iff_eq.mpr c7; have c7b1 : ((rd l0 x5_1) != (rd l1 x5_1)) = false := bne_eq_false_iff_eq.mpr c7; clear c7; have H' := mA H; clear H; have p148 : 0 ≤ (x5_1 : Int) := sqd; have q148 : x5_1 < (l0.length : Int) := sqd; obtain ⟨ad148, e148, hx148_0⟩ := Kd.at_int HR0.out x5_1 p148 q148
   cases e148
   replace p148 := eq_true p148; replace q148 := eq_true q148; have p149 : 0 ≤ (x5_1 : Int) := sqd; have q149 : x5_1 < (l1.length : Int) := sqd; obtain ⟨ad149, e149, hx149_0⟩ := Kd.at_int HR1.out x5_1 p149 q149
   cases e149
   replace p149 := eq_true p149; replace q149 := eq_true q149; go_wp2
   repeat (go_quiet (fail); try go_wp2)
   go_roundg k1
   case measure => have := HK1.out; omega
   case rel => exact ⟨(wrap64 (x5_1 + 1)), zq4, H', ⟨by have := HK1.out; omega⟩, zq7⟩

/-! ### spec_l01Floor: function 116 -/
def spec_l01Floor.f (a0 : Int) (a1 : Int) : Option (Int) := if a1 = 0 then (none) else (if (wrap64 ((wrap64 (Int.tdiv a0 a1)) * a1)) > a0 then (some (wrap64 ((wrap64 (Int.tdiv a0 a1)) - 1))) else (some (wrap64 (Int.tdiv a0 a1))))
set_option maxHeartbeats 8000000 in
set_option maxRecDepth 100000 in
theorem spec_l01Floor.calls (a0 : Int) (a1 : Int) (r : Int) (w : World) (h : spec_l01Floor.f a0 a1 = some r) :
    Calls Try.prog 116 #[.int .i64 a0, .int .i64 a1] w fun e w' => e = .returned (.int .i64 r) ∧ Drawn0 w w' := by
 have H : (if a1 = 0 then (none) else (if (wrap64 ((wrap64 (Int.tdiv a0 a1)) * a1)) > a0 then (some (wrap64 ((wrap64 (Int.tdiv a0 a1)) - 1))) else (some (wrap64 (Int.tdiv a0 a1))))) = some r := h; clear h; obtain ⟨c3, H⟩ := sqJ H; have c3b0 : (a1 == 0) = false := beq_eq_false_iff_ne.mpr c3; have c3b1 : (a1 != 0) = true := bne_iff_ne.mpr c3; by_cases c4 : (wrap64 ((wrap64 (Int.tdiv a0 a1)) * a1)) > a0
 ·rw [if_pos c4] at H; have c4b0 : decide (a0 < (wrap64 ((wrap64 (Int.tdiv a0 a1)) * a1))) = true := decide_eq_true c4; clear c4; obtain rfl := Option.some.inj H; go_enter Try.func116, Try.ntmps116; go_wp2; go_ret; exact ⟨zq4, zq7⟩
 rw [if_neg c4] at H; have c4b0 : decide (a0 < (wrap64 ((wrap64 (Int.tdiv a0 a1)) * a1))) = false := decide_eq_false c4; clear c4; obtain rfl := Option.some.inj H; go_enter Try.func116, Try.ntmps116; go_wp2; go_ret; exact ⟨zq4, zq7⟩

/-! ### spec_l06Start: function 125 -/
def spec_l06Start.l0 : Nat → List Int → List Int → Int → Int → Int → List Int → Option (List Int)
  | 0, _, _, _, _, _, _ => none
  | k + 1, x1, x7, x8, x9, x41000, x41001 => if x9 < (x1.length : Int) then (if 0 ≤ x9 then (if 0 ≤ (rd x1 x9) then (if (rd x1 x9) < (x41001.length : Int) then ((spec_l01Floor.f (wrap64 (x8 + (rd x41001 (rd x1 x9)))) x41000).bind fun t156 => ((spec_l01Floor.f x8 x41000).bind fun t157 => (if (rd x1 x9) < (x7.length : Int) then (spec_l06Start.l0 k x1 (x7.set ((rd x1 x9) : Int).toNat (wrap64 (t156 - t157))) (wrap64 (x8 + (rd x41001 (rd x1 x9)))) (wrap64 (x9 + 1)) x41000 x41001) else (none)))) else (none)) else (none)) else (none)) else (some x7)
def spec_l06Start.f (k : Nat) (a0_0 : Int) (l0_1 : List Int) (l1 : List Int) (a2 : Int) : Option (List Int) := if 0 ≤ (l1.length : Int) then (if ((l1.length : Int) : Int).toNat ≤ 35184372088832 then (spec_l06Start.l0 k l1 (List.replicate ((l1.length : Int) : Int).toNat 0) a2 0 a0_0 l0_1) else (none)) else (none)
theorem spec_l06Start.mono_l : ∀ k, (∀ y0 y1 y2 y3 y4 y5, LeO (spec_l06Start.l0 k y0 y1 y2 y3 y4 y5) (spec_l06Start.l0 (k + 1) y0 y1 y2 y3 y4 y5))
  | 0 => fun _ _ _ _ _ _ r h => by simp [spec_l06Start.l0] at h
  | k + 1 => by
   have ih0 := spec_l06Start.mono_l k
   intros
   unfold spec_l06Start.l0
   all_goals repeat' first | (with_reducible first | apply ih0 | exact LeO.refl _ | exact LeO.none _ | refine LeO.ite ?_ ?_ | refine LeO.bind ?_ (fun _ => ?_)) | apply ih0 | exact LeO.none _ | refine LeO.ite ?_ ?_ | refine LeO.bind ?_ (fun _ => ?_)
theorem spec_l06Start.mono : ∀ a0 a1 a2 a3 k, LeO (spec_l06Start.f k a0 a1 a2 a3) (spec_l06Start.f (k + 1) a0 a1 a2 a3) := by
  intro a0 a1 a2 a3 k
  have ih0 := spec_l06Start.mono_l k
  unfold spec_l06Start.f
  repeat' first | (with_reducible first | apply ih0 | exact LeO.refl _ | exact LeO.none _ | refine LeO.ite ?_ ?_ | refine LeO.bind ?_ (fun _ => ?_)) | apply ih0 | exact LeO.none _ | refine LeO.ite ?_ ?_ | refine LeO.bind ?_ (fun _ => ?_)
def spec_l06Start.T6 : Bool × List (List Nat × List Nat) := (true, [([], []), ([], []), ([1], [1]), ([2], [2]), ([3], [3]), ([], []), ([], []), ([5, 6], [5, 6]), ([7], [7]), ([4, 8], [4, 8]), ([9], [9]), ([0, 10], [0, 10]), ([11, 0, 1, 2, 3, 4, 5, 6, 7, 8, 9, 10, 11], [11])])
def spec_l06Start.B6 : List Nat := [0, 0, 2, 6, 14, 0, 0, 96, 224, 510, 1022, 2047, 4095]
theorem spec_l06Start.tab6 : rtab .any (opsOf Try.f125 6) = spec_l06Start.T6 := by kernel_rfl
theorem spec_l06Start.bits6 : waitsOk spec_l06Start.T6.2 spec_l06Start.B6 = true := by kernel_rfl
def spec_l06Start.T7 : Bool × List (List Nat × List Nat) := (true, [([], []), ([], []), ([], []), ([1, 2], [1, 2]), ([3], [3]), ([], []), ([], []), ([6], [6]), ([7], [7]), ([8], [8]), ([5, 9], [5, 9]), ([], []), ([], []), ([12], [12]), ([13], [13]), ([14], [14]), ([11, 15, 10], [11, 15]), ([10, 16], [10, 16]), ([0, 4, 0, 1, 2, 3, 4, 5, 6, 7, 8, 9, 10, 11, 12, 13, 14, 15, 16, 17], [0, 4]), ([18, 17, 16, 0, 1, 2, 3, 4, 5, 6, 7, 8, 9, 10, 11, 12, 13, 14, 15, 16, 17], [17, 18])])
def spec_l06Start.B7 : List Nat := [0, 0, 0, 6, 14, 0, 0, 64, 192, 448, 992, 0, 0, 4096, 12288, 28672, 65504, 131040, 262143, 524287]
theorem spec_l06Start.tab7 : rtab .any (opsOf Try.f125 7) = spec_l06Start.T7 := by kernel_rfl
theorem spec_l06Start.bits7 : waitsOk spec_l06Start.T7.2 spec_l06Start.B7 = true := by kernel_rfl
set_option maxHeartbeats 8000000 in
set_option maxRecDepth 100000 in
theorem spec_l06Start.calls (k : Nat) (gv0_0_ : Nat) (a0_0 : Int) (A0_1 : Option Addr) (c0_1 : Nat) (l0_1 : List Int) (A1 : Option Addr) (c1 : Nat) (l1 : List Int) (a2 : Int) (r : List Int) (w : World) (hbx0_0_ : w.heap[gv0_0_]? = some (.cells #[.int .i64 a0_0, .slice A0_1 l0_1.length c0_1] 43 (0, 0))) (hr0_1 : Kd.C (Kd.int .i64) w A0_1 l0_1.length l0_1) (hc0_1 : l0_1.length ≤ c0_1) (hr1 : Kd.C (Kd.int .i64) w A1 l1.length l1) (hc1 : l1.length ≤ c1) (h : spec_l06Start.f k a0_0 l0_1 l1 a2 = some r) :
    Calls Try.prog 125 #[.pointer (some ⟨gv0_0_, 0, none⟩), .slice A1 l1.length c1, .int .i64 a2] w fun e w' => ∃ v0_ : Value, e = .returned (v0_) ∧ Kd.R (Kd.int .i64) 2 w' w.heap.size (fun _ => True) v0_ r ∧ Below w.heap.size w w' := by
 have HR0_1 := mA hr0_1; have HC0_1 := mA hc0_1; clear hr0_1 hc0_1; have HR1 := mA hr1; have HC1 := mA hc1; clear hr1 hc1; have BK40 := mA hbx0_0_; clear hbx0_0_; have HB := mA (Below.refl w.heap.size w); have H : (if 0 ≤ (l1.length : Int) then (if ((l1.length : Int) : Int).toNat ≤ 35184372088832 then (spec_l06Start.l0 k l1 (List.replicate ((l1.length : Int) : Int).toNat 0) a2 0 a0_0 l0_1) else (none)) else (none)) = some r := h; clear h; obtain ⟨c4, H⟩ := sqI H; have c4b0 := eq_true c4; have c4b1 : decide (0 ≤ (l1.length : Int)) = true := decide_eq_true c4; clear c4; obtain ⟨c5, H⟩ := sqI H; have c5b0 := eq_true c5; have c5b1 := decide_eq_true c5; clear c5; obtain ⟨y150, hy150⟩ : ∃ y_ : List Int, y_ = (List.replicate ((l1.length : Int) : Int).toNat 0) := ⟨_, rfl⟩
 replace H : (spec_l06Start.l0 k l1 y150 a2 0 a0_0 l0_1) = some r := by first | (rw [hy150]; with_reducible exact H) | (have H2_ := (Option.bind_some _ _).symm.trans H; rw [hy150]; with_reducible exact H2_) | (have H2_ := (Option.bind_some _ _).symm.trans H; with_reducible exact H2_) | with_reducible exact H | (rw [hy150]; exact H) | exact H
 have Ny150 := mA hy150; clear hy150; have H' := mA H; clear H; go_enter Try.func125, Try.ntmps125; go_wp2_with (first | ((with_reducible refine gate_dst (N := 13) rfl ?_); refine Kd.R_make (Kd.int .i64) _ 2 rfl (N := 13) rfl 22 _ _ rfl (l1.length : Int) rfl rfl Try.underlying22 (.int .i64 0) 8 info2 rfl (by decide) (by omega) 0 (ok := fun _ => True) (okp := fun _ => True) rfl (fun _ hk => hk) trivial (sqd) (Nat.le_trans (Nat.mul_le_mul_right _ (sqd : (l1.length : Int).toNat ≤ 35184372088832)) (by omega)) (Below.refl _ _) (Nat.le_refl _) ?_; intro v151 w6 ho7 hb hg_ hnew_; clear hg_ hnew_; (first | rw [← Ny150.out] at ho7 | (simp only [Int.reduceToNat] at ho7; rw [← Ny150.out] at ho7)); have HO152 := mA (Kd.R_lower ho7 (below_size zq2)); replace BK40 := mA (blk_below (g := gv0_0_) (o := .cells #[.int .i64 a0_0, .slice A0_1 l0_1.length c0_1] 43 (0, 0)) (zq0 BK40) hb); replace HB := mA (below_step zq2 hb); clear hb ho7)); go_loopg [8, 9] k (fun kq v8 v9 w' => ∃ (x7_1 : List Int) (x8_1 : Int) (x9_1 : Int), v8 = .int .i64 x8_1 ∧ v9 = .int .i64 x9_1 ∧ Aside0 (spec_l06Start.l0 kq l1 x7_1 x8_1 x9_1 a0_0 l0_1 = some r) ∧ Aside0 (kq ≤ k) ∧ Aside0 (Kd.R (Kd.int .i64) 2 w' w.heap.size (fun _ => True) v151 x7_1) ∧ Aside0 (w'.heap[gv0_0_]? = some (.cells #[.int .i64 a0_0, (.slice A0_1 l0_1.length c0_1)] 43 (0, 0))) ∧ Aside0 (Below w.heap.size w w'))
 case atStart => exact ⟨(y150), (a2), (0), zq4, zq4, H', ⟨Nat.le_refl _⟩, ⟨zq3 HO152⟩, ⟨zq0 BK40⟩, ⟨zq2⟩⟩
 case round =>
  clear H'; (try clear c1); (try clear p2); (try clear c4); (try clear c4b0); (try clear c4b1); (try clear c5); (try clear c5b0); (try clear c5b1); obtain ⟨x7_1, x8_1, x9_1, rfl, rfl, HA, HK1, HO_7, BK40, HB⟩ := hrel
  cases gk with
  | zero => exact absurd HA.out (by simp [spec_l06Start.l0])
  | succ k1 =>
   have H := HA.out; clear HA; simp only [spec_l06Start.l0] at H; refine sqC (x9_1 < (l1.length : Int)) (fun c8 => ?_) (fun c8 => ?_)
   ·rw [if_neg c8] at H; have c8b0 : decide (x9_1 < (l1.length : Int)) = false := decide_eq_false c8; clear c8; obtain rfl := Option.some.inj H; go_wp2; go_ret; exact ⟨_, zq6, zq3 HO_7, zq2⟩
   rw [if_pos c8] at H; have c8b0 : decide (x9_1 < (l1.length : Int)) = true := decide_eq_true c8; clear c8; obtain ⟨c9, H⟩ := sqI H; replace c9 := decide_eq_true c9; obtain ⟨c10, H⟩ := sqI H; replace c10 := decide_eq_true c10; obtain ⟨c11, H⟩ := sqI H; replace c11 := decide_eq_true c11; obtain ⟨t156, A12, H⟩ := sqB H; obtain ⟨t157, A13, H⟩ := sqB H; obtain ⟨c14, H⟩ := sqI H; replace c14 := decide_eq_true c14; obtain ⟨y158, hy158⟩ : ∃ y_ : List Int, y_ = (x7_1.set ((rd l1 x9_1) : Int).toNat (wrap64 (t156 - t157))) := ⟨_, rfl⟩
   replace H : (spec_l06Start.l0 k1 l1 y158 (wrap64 (x8_1 + (rd l0_1 (rd l1 x9_1)))) (wrap64 (x9_1 + 1)) a0_0 l0_1) = some r := by first | (rw [hy158]; with_reducible exact H) | (have H2_ := (Option.bind_some _ _).symm.trans H; rw [hy158]; with_reducible exact H2_) | (have H2_ := (Option.bind_some _ _).symm.trans H; with_reducible exact H2_) | with_reducible exact H | (rw [hy158]; exact H) | exact H
   have Ny158 := mA hy158; clear hy158; have H' := mA H; clear H; (try go_wp2); replace HO_7 := mA (Kd.R_drew HO_7.out); replace BK40 := mA (blk_drew BK40.out); replace HB := mA (below_drew1 HB.out); have p153 : 0 ≤ (x9_1 : Int) := sqd; have q153 : x9_1 < (l1.length : Int) := sqd; obtain ⟨ad153, e153, hx153_0⟩ := Kd.at_int HR1.out x9_1 p153 q153; have hw153_0 := hx153_0
   cases e153
   replace hx153_0 := sqh HB hx153_0; replace p153 := eq_true p153; replace q153 := eq_true q153; have p154 : 0 ≤ ((rd l1 x9_1) : Int) := sqd; have q154 : (rd l1 x9_1) < (l0_1.length : Int) := sqd; obtain ⟨ad154, e154, hx154_0⟩ := Kd.at_int HR0_1.out (rd l1 x9_1) p154 q154; have hw154_0 := hx154_0
   cases e154
   replace hx154_0 := sqh HB hx154_0; replace p154 := eq_true p154; replace q154 := eq_true q154; refine start_ (n := 13) (S := fun w' => w'.cell? ⟨gv0_0_, 0, none⟩ = some (.int .i64 a0_0) ∧ w'.cell? ⟨gv0_0_, 1, none⟩ = some (.slice (some ad154) l0_1.length c0_1) ∧ w'.cell? (ad153.add (x9_1).toNat) = some (.int .i64 (rd l1 x9_1)) ∧ w'.cell? (ad154.add ((rd l1 x9_1)).toNat) = some (.int .i64 (rd l0_1 (rd l1 x9_1)))) (ds := []) #[false, false, false, false, false, false, false, false, false, false, false, false, false] (by kernel_rfl) rfl rfl ⟨(blk_cell BK40.out 0).trans rfl, (blk_cell BK40.out 1).trans rfl, ((HB.out.cell (World.block_lt_of_cell? w _ hw153_0)).trans hw153_0), ((HB.out.cell (World.block_lt_of_cell? w _ hw154_0)).trans hw154_0)⟩ (fun hHeld => ?_); refine with_tabW spec_l06Start.tab6 spec_l06Start.bits6 (fun HT_ HW_ => ?_); generalize wr.drew = w16 at HO_7 BK40 HB hx153_0 hx154_0 hHeld ⊢; refine sqr0 0 (some 21) ?_; refine sqr0 1 (some 22) ?_; refine sqr0 2 (some 23) ?_; refine sqr0 3 (some 24) ?_; refine sqr0 5 (some 26) ?_; refine sqr0 6 (some 27) ?_; refine sqr0 7 (some 28) ?_; refine sqr4 4 (some 25) ?_; refine sqr4 8 (some 29) ?_; refine sqr0 9 (some 30) ?_; refine sqr4 10 (some 31) ?_; refine sqr0 11 (some 32) ?_; refine sqr0 12 (some 10) ?_; refine done_ (done_of HT_.out (by kernel_rfl)) ?_; (try go_wp2); replace HO_7 := mA (Kd.R_drew HO_7.out); replace BK40 := mA (blk_drew BK40.out); replace HB := mA (below_drew1 HB.out); have p155 : 0 ≤ (x9_1 : Int) := sqd; have q155 : x9_1 < (l1.length : Int) := sqd; obtain ⟨ad155, e155, hx155_0⟩ := Kd.at_int HR1.out x9_1 p155 q155; have hw155_0 := hx155_0; obtain rfl : ad153 = ad155 := (by injection e155); replace hx155_0 := sqh HB hx155_0; replace p155 := eq_true p155; replace q155 := eq_true q155; refine start_ (n := 20) (S := fun w' => w'.cell? ⟨gv0_0_, 0, none⟩ = some (.int .i64 a0_0) ∧ w'.cell? ⟨gv0_0_, 1, none⟩ = some (.slice (some ad154) l0_1.length c0_1) ∧ w'.cell? (ad153.add (x9_1).toNat) = some (.int .i64 (rd l1 x9_1))) (ds := [19]) #[false, false, false, false, false, false, false, false, false, false, false, false, false, false, false, false, false, false, false, false] (by kernel_rfl) rfl rfl ⟨(blk_cell BK40.out 0).trans rfl, (blk_cell BK40.out 1).trans rfl, ((HB.out.cell (World.block_lt_of_cell? w _ hw155_0)).trans hw155_0)⟩ (fun hHeld => ?_); refine with_tabW spec_l06Start.tab7 spec_l06Start.bits7 (fun HT_ HW_ => ?_); generalize w16.drew = w17 at HO_7 BK40 HB hx155_0 hHeld ⊢; refine sqr0 0 (some 33) ?_; refine sqr0 1 (some 34) ?_; refine sqr0 2 (some 35) ?_; refine sqr0 3 (some 36) ?_; refine sqr0 5 (some 38) ?_; refine sqr0 6 (some 39) ?_; refine sqr0 7 (some 40) ?_; refine sqr0 8 (some 41) ?_; refine sqr0 11 (some 44) ?_; refine sqr0 12 (some 45) ?_; refine sqr0 13 (some 46) ?_; refine sqr0 14 (some 47) ?_; refine sqr5 4 (some 37) ?_; refine sqr5 9 (some 42) ?_; refine sqr5 15 (some 48) ?_; refine sqr2 10 (some 43) (fun K hK => ?_); refine goes_ Try.func116 (by kernel_rfl) rfl #[.int .i64 (wrap64 (x8_1 + (rd l0_1 (rd l1 x9_1)))), .int .i64 a0_0] (by rfl) rfl rfl zq16 ?_; (with_reducible refine (spec_l01Floor.calls (wrap64 (x8_1 + (rd l0_1 (rd l1 x9_1)))) a0_0 t156 _ A12.out).mono ?_); rintro e w' ⟨rfl, ⟨nd, rfl⟩⟩; refine ⟨_, rfl, ?_⟩; refine hK.out _ _ ⟨(blk_cell BK40.out 0).trans rfl, (blk_cell BK40.out 1).trans rfl, ((HB.out.cell (World.block_lt_of_cell? w _ hw155_0)).trans hw155_0)⟩ (fun hHeld => ?_); clear hK K; refine sqr3 ?_; refine sqr2 16 (some 49) (fun K hK => ?_)
   refine goes_ Try.func116 (by kernel_rfl) rfl #[.int .i64 x8_1, .int .i64 a0_0] (by rfl) rfl rfl zq16 ?_; (with_reducible refine (spec_l01Floor.calls x8_1 a0_0 t157 _ A13.out).mono ?_); rintro e w' ⟨rfl, ⟨nd, rfl⟩⟩; refine ⟨_, rfl, ?_⟩; have p15 : 0 ≤ ((rd l1 x9_1) : Int) := sqd; have q15 : ((rd l1 x9_1) : Int) < ((x7_1.length : Int) : Int) := sqd; obtain ⟨go15, co15, eo15, gb15, gl15, cl15, HG15⟩ := Kd.R_form HO_7.out (by omega); (first | cases eo15 | (injection eo15 with ea_ en_ ec_; (first | subst ea_ | (injection ea_ with ea_; subst ea_)); subst ec_; clear en_)); have GB15 := mA gb15; have GG15 := mA HG15; clear gb15 gl15 HG15; obtain ⟨hx15_0, hf15_0⟩ := Kd.R_celln 0 HO_7.out ((rd l1 x9_1) : Int) p15 q15; replace p15 := eq_true p15; replace q15 := eq_true q15; have HP18 := Kd.R_putn HO_7.out ((rd l1 x9_1) : Int) (wrap64 (t156 - t157)); rw [← Ny158.out] at HP18; have HQ18 := mA HP18; clear HP18; refine hK.out _ _ ⟨(blk_cell BK40.out 0).trans rfl, (blk_cell BK40.out 1).trans rfl, ((HB.out.cell (World.block_lt_of_cell? w _ hw155_0)).trans hw155_0)⟩ (fun hHeld => ?_); clear hK K; refine sqr3 ?_; refine sqr0 17 (some 50) ?_; refine sqr0 18 (some 51) ?_; refine last_ (i := 19) (N := none) #[true, true, true, true, true, true, true, true, true, true, true, true, true, true, true, true, true, true, true, true] rfl rfl (one_of HT_.out (by kernel_rfl)) (by decide) (fun K hK => ?_); refine skip_ (w1 := ?_) (by rfl) rfl ?_ ?_; rotate_left
   ·go_simp; rfl
   refine hK.out _ _ ?_; clear hK K; refine done_ (done_of HT_.out (by kernel_rfl)) ?_; (try go_wp2); go_roundg k1
   case measure => have := HK1.out; omega
   case rel => exact ⟨(y158), (wrap64 (x8_1 + (rd l0_1 (rd l1 x9_1)))), (wrap64 (x9_1 + 1)), zq4, zq4, H', ⟨by have := HK1.out; omega⟩, ⟨zq3 HQ18⟩, ⟨by (with_reducible repeat (first | refine blk_drewN ?_ _ | refine blk_drew ?_ | refine blk_alloc ?_ _)); refine blk_far ?_ (by have h_ := Kd.R_ne HO_7.out BK40.out (by decide); intro e_; exact h_ (by rw [e_]; rfl)) _; (with_reducible repeat (first | refine blk_drewN ?_ _ | refine blk_drew ?_ | refine blk_alloc ?_ _)); exact BK40.out⟩, ⟨by repeat (first | (with_reducible first | exact HB.out | apply below_alloc | apply pw_below_drewN | apply below_drew1 | refine below_set ?_ GB15.out | refine below_set ?_ (Aside0.out (by assumption))) | exact HB.out)⟩⟩

end Go.Proofs.Ytlhpejabdmejbaa.PFnExactSystematicIn
