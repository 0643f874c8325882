/- Written by this session's program (wip/tool/xprint.py) over the kit's printer. -/
import Derived.Test.YtlhpejabdmejbaaPFnExactPermutationMixturex0
import Derived.Test.YtlhpejabdmejbaaPFnExactPermutationMixturex2
namespace Go.Proofs.Ytlhpejabdmejbaa.PFnExactPermutationMixture
open Go.RowKit Go.Proofs.YtlhpejabdmejbaaW.PrintWords Go.Proofs.YtlhpejabdmejbaaW.PrintLast Go.Proofs.YtlhpejabdmejbaaW.PrintMore
attribute [local go_sem] max2_int min2_int max_two min_two max_three min_three max_four min_four   -- for this text's walks alone
set_option linter.unusedVariables false
set_option linter.unusedSimpArgs false

/-! ### spec_l00Has: function 122 -/
def spec_l00Has.l0 : Nat → List Int → Int → Int → Option (Bool)
  | 0, _, _, _ => none
  | k + 1, x0, x1, x5 => if x5 < (x0.length : Int) then (if 0 ≤ x5 then (if (rd x0 x5) = x1 then (some true) else (spec_l00Has.l0 k x0 x1 (wrap64 (x5 + 1)))) else (none)) else (some false)
def spec_l00Has.f (k : Nat) (l0 : List Int) (a1 : Int) : Option (Bool) := spec_l00Has.l0 k l0 a1 0
theorem spec_l00Has.mono_l : ∀ k, (∀ y0 y1 y2, LeO (spec_l00Has.l0 k y0 y1 y2) (spec_l00Has.l0 (k + 1) y0 y1 y2))
  | 0 => fun _ _ _ r h => by simp [spec_l00Has.l0] at h
  | k + 1 => by
   have ih0 := spec_l00Has.mono_l k
   intros
   unfold spec_l00Has.l0
   all_goals repeat' first | (with_reducible first | apply ih0 | exact LeO.refl _ | exact LeO.none _ | refine LeO.ite ?_ ?_ | refine LeO.bind ?_ (fun _ => ?_)) | apply ih0 | exact LeO.none _ | refine LeO.ite ?_ ?_ | refine LeO.bind ?_ (fun _ => ?_)
theorem spec_l00Has.mono : ∀ a0 a1 k, LeO (spec_l00Has.f k a0 a1) (spec_l00Has.f (k + 1) a0 a1) := by
  intro a0 a1 k
  have ih0 := spec_l00Has.mono_l k
  unfold spec_l00Has.f
  repeat' first | (with_reducible first | apply ih0 | exact LeO.refl _ | exact LeO.none _ | refine LeO.ite ?_ ?_ | refine LeO.bind ?_ (fun _ => ?_)) | apply ih0 | exact LeO.none _ | refine LeO.ite ?_ ?_ | refine LeO.bind ?_ (fun _ => ?_)
set_option maxHeartbeats 8000000 in
set_option maxRecDepth 100000 in
theorem spec_l00Has.calls (k : Nat) (A0 : Option Addr) (c0 : Nat) (l0 : List Int) (a1 : Int) (r : Bool) (w : World) (hr0 : Kd.C (Kd.int .i64) w A0 l0.length l0) (hc0 : l0.length ≤ c0) (h : spec_l00Has.f k l0 a1 = some r) :
    Calls Try.prog 122 #[.slice A0 l0.length c0, .int .i64 a1] w fun e w' => e = .returned (.bool r) ∧ Drawn0 w w' := by
 have HR0 := mA hr0; have HC0 := mA hc0; clear hr0 hc0; have H : (spec_l00Has.l0 k l0 a1 0) = some r := h; clear h; have H' := mA H; clear H; go_enter Try.func122, Try.ntmps122; go_wp2; go_loopg [5] k (fun kq v5 w' => ∃ (x5_1 : Int), v5 = .int .i64 x5_1 ∧ Aside0 (spec_l00Has.l0 kq l0 a1 x5_1 = some r) ∧ Aside0 (kq ≤ k) ∧ Drawn0 w w')
 case atStart => exact ⟨(0), zq4, H', ⟨Nat.le_refl _⟩, zq8⟩
 case round =>
  clear H'; obtain ⟨x5_1, rfl, HA, HK1, ⟨m1, rfl⟩⟩ := hrel
  cases gk with
  | zero => exact absurd HA.out (by simp [spec_l00Has.l0])
  | succ k1 =>
   have H := HA.out; clear HA; simp only [spec_l00Has.l0] at H; refine sqC (x5_1 < (l0.length : Int)) (fun c3 => ?_) (fun c3 => ?_)
   ·rw [if_neg c3] at H; replace c3 := decide_eq_false c3; obtain rfl := Option.some.inj H; go_wp2; go_ret; exact ⟨zq4, zq8⟩
   rw [if_pos c3] at H; replace c3 := decide_eq_true c3; obtain ⟨c4, H⟩ := sqI H; have c4b0 : decide (0 ≤ x5_1) = true := decide_eq_true c4; clear c4; by_cases c5 : (rd l0 x5_1) = a1
   ·rw [if_pos c5] at H; have c5b0 : ((rd l0 x5_1) == a1) = true := beq_iff_eq.mpr c5; have c5b1 : ((rd l0 x5_1) != a1) = false := bne_eq_false_iff_eq.mpr c5; clear c5; obtain rfl := Option.some.inj H; have p138 : 0 ≤ (x5_1 : Int) := sqd; have q138 : x5_1 < (l0.length : Int) := sqd; obtain ⟨ad138, e138, hx138_0⟩ := Kd.at_int HR0.out x5_1 p138 q138
    cases e138
    replace p138 := eq_true p138; replace q138 := eq_true q138; go_wp2; go_ret; exact ⟨zq4, zq8⟩
   rw [if_neg c5] at H; have c5b0 : ((rd l0 x5_1) == a1) = false := beq_eq_false_iff_ne.mpr c5; have c5b1 : ((rd l0 x5_1) != a1) = true := bne_iff_ne.mpr c5; have H' := mA H; clear H; have p138 : 0 ≤ (x5_1 : Int) := sqd; have q138 : x5_1 < (l0.length : Int) := sqd; obtain ⟨ad138, e138, hx138_0⟩ := Kd.at_int HR0.out x5_1 p138 q138
   cases e138
   replace p138 := eq_true p138; replace q138 := eq_true q138; go_wp2; go_roundg k1
   case measure => have := HK1.out; omega
   case rel => exact ⟨(wrap64 (x5_1 + 1)), zq4, H', ⟨by have := HK1.out; omega⟩, zq8⟩

/-! ### spec_l06Fits: function 85 -/
mutual
def spec_l06Fits.l0 : Nat → List (List Int) → List Int → Int → Int → Option (List Int × Bool)
  | 0, _, _, _, _ => none
  | k + 1, x0, x1, x6, x7 => if x7 < (x0.length : Int) then (if 0 ≤ x6 then (if x6 < (x0.length : Int) then (if 0 ≤ x7 then (if x7 < ((rd_L1 x0 x6).length : Int) then (if (rd (rd_L1 x0 x6) x7) = 0 then (spec_l06Fits.j1 k x0 x1 x6 x7 true) else ((spec_l00Has.f k x1 x7).bind fun t144 => (spec_l06Fits.j1 k x0 x1 x6 x7 t144))) else (none)) else (none)) else (none)) else (none)) else (some ((([] : List Int)), false))
def spec_l06Fits.j1 : Nat → List (List Int) → List Int → Int → Int → Bool → Option (List Int × Bool)
  | 0, _, _, _, _, _ => none
  | k + 1, x0, x1, x6, x7, x35 => if x35 = true then (spec_l06Fits.l0 k x0 x1 x6 (wrap64 (x7 + 1))) else ((spec_l00Own.f x1).bind fun t145 => (if t145.length < 17592186044416 then ((spec_l06Fits.f k x0 (t145 ++ [x7])).bind fun bt151 => (if bt151.2 = true then (some (bt151.1, true)) else (spec_l06Fits.l0 k x0 x1 x6 (wrap64 (x7 + 1))))) else (none)))
def spec_l06Fits.f : Nat → List (List Int) → List Int → Option (List Int × Bool)
  | 0, _, _ => none
  | k + 1, l0, l1 => if (l1.length : Int) = (l0.length : Int) then (some (l1, true)) else (spec_l06Fits.l0 k l0 l1 (l1.length : Int) 0)
end
theorem spec_l06Fits.mono_l : ∀ k, (∀ y0 y1, LeO (spec_l06Fits.f k y0 y1) (spec_l06Fits.f (k + 1) y0 y1)) ∧ (∀ y0 y1 y2 y3, LeO (spec_l06Fits.l0 k y0 y1 y2 y3) (spec_l06Fits.l0 (k + 1) y0 y1 y2 y3)) ∧ (∀ y0 y1 y2 y3 y4, LeO (spec_l06Fits.j1 k y0 y1 y2 y3 y4) (spec_l06Fits.j1 (k + 1) y0 y1 y2 y3 y4))
  | 0 => ⟨fun _ _ r h => by simp [spec_l06Fits.f] at h, fun _ _ _ _ r h => by simp [spec_l06Fits.l0] at h, fun _ _ _ _ _ r h => by simp [spec_l06Fits.j1] at h⟩
  | k + 1 => by
   obtain ⟨ih0, ih1, ih2⟩ := spec_l06Fits.mono_l k
   refine ⟨?_, ?_, ?_⟩ <;> intros
   all_goals first | unfold spec_l06Fits.f | unfold spec_l06Fits.l0 | unfold spec_l06Fits.j1
   all_goals repeat' first | (with_reducible first | apply ih0 | apply ih1 | apply ih2 | apply spec_l00Has.mono | exact LeO.refl _ | exact LeO.none _ | refine LeO.ite ?_ ?_ | refine LeO.bind ?_ (fun _ => ?_)) | apply ih0 | apply ih1 | apply ih2 | apply spec_l00Has.mono | exact LeO.none _ | refine LeO.ite ?_ ?_ | refine LeO.bind ?_ (fun _ => ?_)
theorem spec_l06Fits.mono : ∀ a0 a1 k, LeO (spec_l06Fits.f k a0 a1) (spec_l06Fits.f (k + 1) a0 a1) := by
  intro a0 a1 k
  obtain ⟨ih0, ih1, ih2⟩ := spec_l06Fits.mono_l k
  exact ih0 a0 a1
set_option maxHeartbeats 8000000 in
set_option maxRecDepth 100000 in
theorem spec_l06Fits.calls (k : Nat) : ∀ (A0 : Option Addr) (c0 : Nat) (l0 : List (List Int)) (P1_ : Nat → Prop) (u9000_ : Value) (l1 : List Int) (r1 : List Int) (r2 : Bool) (w0 w : World) (hB : Below w0.heap.size w0 w) (hr0 : ∀ W_, Kept w W_ (fun k_ => P1_ k_) → Kd.C (Kd.slice 2 (Kd.int .i64)) W_ A0 l0.length l0) (hc0 : l0.length ≤ c0) (ho1 : Kd.R (Kd.int .i64) 2 w w0.heap.size P1_ u9000_ l1) (h : spec_l06Fits.f k l0 l1 = some (r1, r2)),
    Calls Try.prog 85 #[.slice A0 l0.length c0, u9000_] w fun e w' => ∃ v0_ : Value, e = .returned (.tuple #[v0_, .bool r2]) ∧ Kd.R (Kd.int .i64) 2 w' w0.heap.size (fun k_ => (P1_ k_ ∨ w.heap.size ≤ k_)) v0_ r1 ∧ Below w0.heap.size w0 w' ∧ Kept w w' (fun k_ => P1_ k_) := by
 induction k using Nat.strongRecOn with
 | _ k ih =>
 intro A0 c0 l0 P1_ u9000_ l1 r1 r2 w0 w hB hr0 hc0 ho1 h
 cases k with
 | zero => exact absurd h (by simp [spec_l06Fits.f])
 | succ k =>
 simp only [spec_l06Fits.f] at h; have HR0 := mA hr0; have HC0 := mA hc0; clear hr0 hc0; have HO1 := mA (show Kd.R (Kd.int .i64) 2 w w0.heap.size (fun k_ => (P1_ k_ ∨ w.heap.size ≤ k_)) u9000_ l1 from Kd.R_mono ho1 (fun k_ hk => (.inl hk))); have HK := mA (Kept.refl w (fun k_ => P1_ k_)); have HW0 := mA hB.size; have HB := mA hB; clear hB; have H : (if (l1.length : Int) = (l0.length : Int) then (some (l1, true)) else (spec_l06Fits.l0 k l0 l1 (l1.length : Int) 0)) = some (r1, r2) := h; clear h; by_cases c3 : (l1.length : Int) = (l0.length : Int)
 ·rw [if_pos c3] at H; have c3b0 : ((l1.length : Int) == (l0.length : Int)) = true := beq_iff_eq.mpr c3; have c3b1 : ((l1.length : Int) != (l0.length : Int)) = false := bne_eq_false_iff_eq.mpr c3
  have c3b2 : (l1.length == l0.length) = true := by first | simpa using c3 | (simp at c3 ⊢; omega)
  clear c3; simp only [Option.some.injEq, Prod.mk.injEq] at H; obtain ⟨rfl, rfl⟩ := H; obtain ⟨Ao4, co4, eo4⟩ := Kd.R_slice HO1.out; subst eo4; go_enter Try.func85, Try.ntmps85; go_wp2; go_ret2; exact ⟨_, zq7, zq3 HO1, zq0, zq6⟩
 rw [if_neg c3] at H; have c3b0 : ((l1.length : Int) == (l0.length : Int)) = false := beq_eq_false_iff_ne.mpr c3; have c3b1 : ((l1.length : Int) != (l0.length : Int)) = true := bne_iff_ne.mpr c3
 have c3b2 : (l1.length == l0.length) = false := by first | simpa using c3 | (simp at c3 ⊢; omega)
 have H' := mA H; clear H; obtain ⟨Ao5, co5, eo5⟩ := Kd.R_slice HO1.out; subst eo5; go_enter Try.func85, Try.ntmps85; go_wp2; go_loopg [7] k (fun kq v7 w' => ∃ (x7_1 : Int), v7 = .int .i64 x7_1 ∧ Aside0 (spec_l06Fits.l0 kq l0 l1 (l1.length : Int) x7_1 = some (r1, r2)) ∧ Aside0 (kq ≤ k) ∧ Aside0 (Kd.R (Kd.int .i64) 2 w' w0.heap.size (fun k_ => (P1_ k_ ∨ w.heap.size ≤ k_)) (.slice Ao5 l1.length co5) l1) ∧ Aside0 (Kept w w' (fun k_ => P1_ k_)) ∧ Aside0 (Below w0.heap.size w0 w'))
 case atStart => exact ⟨(0), zq4, H', ⟨Nat.le_refl _⟩, ⟨zq3 HO1⟩, ⟨zq6⟩, ⟨zq0⟩⟩
 case round =>
  clear H'; (try clear c3); (try clear c3b0); (try clear c3b1); (try clear c3b2); obtain ⟨x7_1, rfl, HA, HK1, HO_1, HK, HB⟩ := hrel
  cases gk with
  | zero => exact absurd HA.out (by simp [spec_l06Fits.l0])
  | succ k1 =>
   have H := HA.out; clear HA; simp only [spec_l06Fits.l0] at H; by_cases c6 : x7_1 < (l0.length : Int)
   ·rw [if_pos c6] at H; replace c6 := decide_eq_true c6; have HC7 := mA H; clear H
    go_upto_region 7 with (fail)
    go_cut [35] (fun v35 wc => ∃ (kq : Nat) (x35_6 : Bool), v35 = .bool x35_6 ∧ Aside0 (spec_l06Fits.j1 kq l0 l1 (l1.length : Int) x7_1 x35_6 = some (r1, r2)) ∧ Aside0 (kq ≤ k1) ∧ Aside0 (Kd.R (Kd.int .i64) 2 wc w0.heap.size (fun k_ => (P1_ k_ ∨ w.heap.size ≤ k_)) (.slice Ao5 l1.length co5) l1) ∧ Aside0 (Kept w wc (fun k_ => P1_ k_)) ∧ Aside0 (Below w0.heap.size w0 wc))
    case first =>
     have H := HC7.out; clear HC7; obtain ⟨c8, H⟩ := sqI H; have c8b0 := decide_eq_true c8; have c8b1 : decide (0 ≤ l1.length) = true := decide_eq_true (by omega); clear c8; (first | rw [c8b0] | (simp only [i64_w, i32_w]; rw [c8b0]) | skip); obtain ⟨c9, H⟩ := sqI H; have c9b0 := decide_eq_true c9; have c9b1 : decide (l1.length < l0.length) = true := decide_eq_true (Int.ofNat_lt.mp c9); clear c9; obtain ⟨c10, H⟩ := sqI H; replace c10 := decide_eq_true c10; obtain ⟨c11, H⟩ := sqI H; replace c11 := decide_eq_true c11; by_cases c12 : (rd (rd_L1 l0 (l1.length : Int)) x7_1) = 0
     ·rw [if_pos c12] at H; have c12b0 : ((rd (rd_L1 l0 (l1.length : Int)) x7_1) == 0) = true := beq_iff_eq.mpr c12; have c12b1 : ((rd (rd_L1 l0 (l1.length : Int)) x7_1) != 0) = false := bne_eq_false_iff_eq.mpr c12; clear c12; have H' := mA H; clear H; have p142 : 0 ≤ ((l1.length : Int) : Int) := sqd; have q142 : (l1.length : Int) < (l0.length : Int) := sqd; obtain ⟨ad142, A142_0, c142_0, e142, hx142_0, hl142_0, hi142_0⟩ := at_L1 (Kd.C_kept_now HR0.out HK.out) (l1.length : Int) p142 q142
      cases e142
      have HR142_0 := mA hi142_0; have HC142_0 := mA hl142_0; clear hi142_0 hl142_0; (try simp only [Go.IntWalk.toNatUp] at hx142_0); replace p142 := eq_true p142; replace q142 := eq_true q142; have p143 : 0 ≤ (x7_1 : Int) := sqd; have q143 : x7_1 < ((rd_L1 l0 (l1.length : Int)).length : Int) := sqd; obtain ⟨ad143, e143, hx143_0⟩ := Kd.at_int (zq27 HR142_0) x7_1 p143 q143
      cases e143
      replace p143 := eq_true p143; replace q143 := eq_true q143; go_wp2; go_meet
      case rel => exact ⟨_, (true), zq4, H', ⟨by have := HK1.out; first | omega | exact Nat.le_refl _⟩, ⟨zq3 HO_1⟩, ⟨zq6⟩, ⟨zq0⟩⟩
     rw [if_neg c12] at H; have c12b0 : ((rd (rd_L1 l0 (l1.length : Int)) x7_1) == 0) = false := beq_eq_false_iff_ne.mpr c12; have c12b1 : ((rd (rd_L1 l0 (l1.length : Int)) x7_1) != 0) = true := bne_iff_ne.mpr c12; obtain ⟨t144, A13, H⟩ := sqB H; have H' := mA H; clear H; have p142 : 0 ≤ ((l1.length : Int) : Int) := sqd; have q142 : (l1.length : Int) < (l0.length : Int) := sqd; obtain ⟨ad142, A142_0, c142_0, e142, hx142_0, hl142_0, hi142_0⟩ := at_L1 (Kd.C_kept_now HR0.out HK.out) (l1.length : Int) p142 q142
     cases e142
     have HR142_0 := mA hi142_0; have HC142_0 := mA hl142_0; clear hi142_0 hl142_0; (try simp only [Go.IntWalk.toNatUp] at hx142_0); replace p142 := eq_true p142; replace q142 := eq_true q142; have p143 : 0 ≤ (x7_1 : Int) := sqd; have q143 : x7_1 < ((rd_L1 l0 (l1.length : Int)).length : Int) := sqd; obtain ⟨ad143, e143, hx143_0⟩ := Kd.at_int (zq27 HR142_0) x7_1 p143 q143
     cases e143
     replace p143 := eq_true p143; replace q143 := eq_true q143; go_wp2_with (first | (go_at_call 122; (with_reducible refine (spec_l00Has.calls k1 _ _ l1 x7_1 t144 _ ?s1 ?s2 A13.out).mono ?_); (case s1 => exact zq13 HO_1); (case s2 => exact zq14 HO_1); rintro e w' ⟨rfl, ⟨nd, rfl⟩⟩)); go_meet
     case rel => exact ⟨_, (t144), zq4, H', ⟨by have := HK1.out; first | omega | exact Nat.le_refl _⟩, ⟨zq3 HO_1⟩, ⟨zq6⟩, ⟨zq0⟩⟩
    case rest =>
     clear HC7; (try clear c3); (try clear c3b0); (try clear c3b1); (try clear c3b2); (try clear c6); (try clear c6b0); obtain ⟨kq, x35_6, rfl, HA, HJ6, HO_1, HK, HB⟩ := hcut
     cases kq with
     | zero => exact absurd HA.out (by simp [spec_l06Fits.j1])
     | succ kj6 =>
      have H := HA.out; clear HA; simp only [spec_l06Fits.j1] at H; by_cases c14 : x35_6 = true
      ·subst c14; rw [if_pos rfl] at H; have H' := mA H; clear H; go_wp2; go_roundg kj6
       case measure => have := HK1.out; have := HJ6.out; omega
       case rel => exact ⟨(wrap64 (x7_1 + 1)), zq4, H', ⟨zq18 HK1 HJ6⟩, ⟨zq3 HO_1⟩, ⟨zq6⟩, ⟨zq0⟩⟩
      replace c14 := Bool.eq_false_iff.mpr c14; subst c14; rw [if_neg (show ¬ (false = true) by decide)] at H; obtain ⟨t145, A15, H⟩ := sqB H; obtain ⟨c16, H⟩ := sqI H; have LMc16 := mA c16; clear c16; obtain ⟨y148, hy148⟩ : ∃ y_ : List Int, y_ = (t145 ++ [x7_1]) := ⟨_, rfl⟩
      replace H : ((spec_l06Fits.f kj6 l0 y148).bind fun bt151 => (if bt151.2 = true then (some (bt151.1, true)) else (spec_l06Fits.l0 kj6 l0 l1 (l1.length : Int) (wrap64 (x7_1 + 1))))) = some (r1, r2) := by first | (rw [hy148]; with_reducible exact H) | (have H2_ := (Option.bind_some _ _).symm.trans H; rw [hy148]; with_reducible exact H2_) | (have H2_ := (Option.bind_some _ _).symm.trans H; with_reducible exact H2_) | with_reducible exact H | (rw [hy148]; exact H) | exact H
      have Ny148 := mA hy148; clear hy148; obtain ⟨⟨t151, t154⟩, A17, H⟩ := sqB H; dsimp only at H; by_cases c18 : t154 = true
      ·subst c18; rw [if_pos rfl] at H; simp only [Option.some.injEq, Prod.mk.injEq] at H; obtain ⟨rfl, rfl⟩ := H
       go_wp2_with (first | (refine sqG 67 (some 39) Try.func67 #[.slice Ao5 l1.length co5] (h := ?_); (with_reducible refine (spec_l00Own.calls _ _ l1 t145 _ ?s1 ?s2 A15.out).mono ?_); (case s1 => exact zq13 HO_1); (case s2 => exact zq14 HO_1); rintro e w19 ⟨v146, rfl, ho0, hb⟩; refine ⟨_, rfl, ?_⟩; have HO147 := mA (Kd.R_lower (Kd.R_new' (Kd.R_newM (M := fun k_ => (P1_ k_ ∨ w.heap.size ≤ k_)) ho0 zq20 (fun k_ h_ => .inr h_)) (Kd.R_lt (zq3 HO_1))) (below_size zq0)); replace HO_1 := mA (Kd.R_elder' (zq3 HO_1) (Kd.R_base ho0) hb); replace HK := mA (Kept.below (S := (fun k_ => P1_ k_)) zq6 hb); replace HB := mA (below_step zq0 hb); (try clear hb ho0)) | ((with_reducible refine gate_builtin (b := .append) (xs := #[.tmp 39, .tmp 41]) rfl ?_); at_builtin; refine Kd.R_append (Kd.int .i64) (w0 := w0) w0.heap.size rfl (.tmp 39) (.tmp 41) 22 2 (.int .i64 0) 8 rfl Try.underlying22 info2 rfl (by decide) (by omega) v146 t145 x7_1 [.int .i64 x7_1] (fun k_ => (P1_ k_ ∨ w.heap.size ≤ k_) ∧ some k_ ≠ (.slice Ao5 l1.length co5 : Value).ownBlock) (fun _ => False) rfl rfl ?aP (fun _ hk => hk.elim) ?aF ?aO ?aB ?aS ?aL ?_; (case aP => exact rfl); (case aB => exact zq19); (case aF => exact zq34 HO_1); (case aO => exact zq35 HO147); (case aS => exact zq24); (case aL => have := LMc16.out; omega); intro v149 w20 ho hb hg hat; rw [← Ny148.out] at ho; replace HO_1 := mA (Kd.R_after (ok := (fun k_ => (P1_ k_ ∨ w.heap.size ≤ k_))) (zq3 HO_1) hg hat); replace HB := mA (hb); replace HK := mA (Kept.of_grown (S := (fun k_ => P1_ k_)) hg zq6 (fun k_ e_ => (HO147.out.1 k_ e_).1.1)); have HO150 := mA (ho); clear HO147 ho hb hg hat; obtain ⟨Ao21, co21, eo21⟩ := Kd.R_slice HO150.out; subst eo21) | (refine sqG 85 (some 43) Try.func85 #[.slice A0 l0.length c0, .slice Ao21 y148.length co21] (h := ?_); (with_reducible refine (ih kj6 (zq18 HK1 HJ6) _ _ l0 (fun k_ => some k_ = (.slice Ao21 y148.length co21 : Value).ownBlock) (.slice Ao21 y148.length co21) y148 t151 true w0 _ ?s1 ?s2 ?s3 ?s4 A17.out).mono ?_); (case s1 => exact zq0); (case s2 => exact zq36 HR0 HO150); (case s3 => exact HC0.out); (case s4 => exact Kd.R_tight rfl HO150.out); rintro e w22 ⟨v152, rfl, ho0, hb, hkp⟩; refine ⟨_, rfl, ?_⟩; have HO153 := mA (Kd.R_mono (ok' := fun k_ => (P1_ k_ ∨ w.heap.size ≤ k_) ∧ some k_ ≠ (.slice Ao5 l1.length co5 : Value).ownBlock) ho0 (fun k_ hk_ => ⟨Or.elim hk_ (fun hs_ => (HO150.out.1 k_ (hs_).symm).1) (fun hn_ => (.inr (Nat.le_trans zq20 hn_))), Or.elim hk_ (fun hs_ => fun e_ => (((HO_1.out).1 k_ e_.symm).2) hs_) (fun hn_ => (Kd.fresh' (Kd.R_lt (zq3 HO_1)) k_ hn_))⟩)); replace HO_1 := mA (Kd.R_mono (ok' := fun k_ => (P1_ k_ ∨ w.heap.size ≤ k_) ∧ some k_ ≠ (v152 : Value).ownBlock) (Kd.R_keptB (HO_1.out) hkp (fun k_ hk_ hs_ => (hk_.2) hs_)) (fun k_ hk_ => ⟨hk_.1.1, fun e_ => Or.elim (ho0.1 k_ e_.symm) (fun hs_ => hk_.2.1 hs_) (fun hn_ => Nat.not_le.2 hk_.2.2 hn_)⟩)); replace HK := mA (Kept.then_ (S := (fun k_ => P1_ k_)) zq6 hkp (fun k_ hs_ => (fun e_ => (HO150.out.1 k_ e_.symm).1) hs_)); replace HB := mA (hb); clear HO150; (try clear hb); (try clear hkp); (try clear ho0)))
       go_ret2; exact ⟨_, zq7, zq33 HO153, zq0, zq6⟩
      replace c18 := Bool.eq_false_iff.mpr c18; subst c18; rw [if_neg (show ¬ (false = true) by decide)] at H; have H' := mA H; clear H
      go_wp2_with (first | (refine sqG 67 (some 39) Try.func67 #[.slice Ao5 l1.length co5] (h := ?_); (with_reducible refine (spec_l00Own.calls _ _ l1 t145 _ ?s1 ?s2 A15.out).mono ?_); (case s1 => exact zq13 HO_1); (case s2 => exact zq14 HO_1); rintro e w23 ⟨v146, rfl, ho0, hb⟩; refine ⟨_, rfl, ?_⟩; have HO147 := mA (Kd.R_lower (Kd.R_new' (Kd.R_newM (M := fun k_ => (P1_ k_ ∨ w.heap.size ≤ k_)) ho0 zq20 (fun k_ h_ => .inr h_)) (Kd.R_lt (zq3 HO_1))) (below_size zq0)); replace HO_1 := mA (Kd.R_elder' (zq3 HO_1) (Kd.R_base ho0) hb); replace HK := mA (Kept.below (S := (fun k_ => P1_ k_)) zq6 hb); replace HB := mA (below_step zq0 hb); (try clear hb ho0)) | ((with_reducible refine gate_builtin (b := .append) (xs := #[.tmp 39, .tmp 41]) rfl ?_); at_builtin; refine Kd.R_append (Kd.int .i64) (w0 := w0) w0.heap.size rfl (.tmp 39) (.tmp 41) 22 2 (.int .i64 0) 8 rfl Try.underlying22 info2 rfl (by decide) (by omega) v146 t145 x7_1 [.int .i64 x7_1] (fun k_ => (P1_ k_ ∨ w.heap.size ≤ k_) ∧ some k_ ≠ (.slice Ao5 l1.length co5 : Value).ownBlock) (fun _ => False) rfl rfl ?aP (fun _ hk => hk.elim) ?aF ?aO ?aB ?aS ?aL ?_; (case aP => exact rfl); (case aB => exact zq19); (case aF => exact zq34 HO_1); (case aO => exact zq35 HO147); (case aS => exact zq24); (case aL => have := LMc16.out; omega); intro v149 w24 ho hb hg hat; rw [← Ny148.out] at ho; replace HO_1 := mA (Kd.R_after (ok := (fun k_ => (P1_ k_ ∨ w.heap.size ≤ k_))) (zq3 HO_1) hg hat); replace HB := mA (hb); replace HK := mA (Kept.of_grown (S := (fun k_ => P1_ k_)) hg zq6 (fun k_ e_ => (HO147.out.1 k_ e_).1.1)); have HO150 := mA (ho); clear HO147 ho hb hg hat; obtain ⟨Ao25, co25, eo25⟩ := Kd.R_slice HO150.out; subst eo25) | (refine sqG 85 (some 43) Try.func85 #[.slice A0 l0.length c0, .slice Ao25 y148.length co25] (h := ?_); (with_reducible refine (ih kj6 (zq18 HK1 HJ6) _ _ l0 (fun k_ => some k_ = (.slice Ao25 y148.length co25 : Value).ownBlock) (.slice Ao25 y148.length co25) y148 t151 false w0 _ ?s1 ?s2 ?s3 ?s4 A17.out).mono ?_); (case s1 => exact zq0); (case s2 => exact zq36 HR0 HO150); (case s3 => exact HC0.out); (case s4 => exact Kd.R_tight rfl HO150.out); rintro e w26 ⟨v152, rfl, ho0, hb, hkp⟩; refine ⟨_, rfl, ?_⟩; have HO153 := mA (Kd.R_mono (ok' := fun k_ => (P1_ k_ ∨ w.heap.size ≤ k_) ∧ some k_ ≠ (.slice Ao5 l1.length co5 : Value).ownBlock) ho0 (fun k_ hk_ => ⟨Or.elim hk_ (fun hs_ => (HO150.out.1 k_ (hs_).symm).1) (fun hn_ => (.inr (Nat.le_trans zq20 hn_))), Or.elim hk_ (fun hs_ => fun e_ => (((HO_1.out).1 k_ e_.symm).2) hs_) (fun hn_ => (Kd.fresh' (Kd.R_lt (zq3 HO_1)) k_ hn_))⟩)); replace HO_1 := mA (Kd.R_mono (ok' := fun k_ => (P1_ k_ ∨ w.heap.size ≤ k_) ∧ some k_ ≠ (v152 : Value).ownBlock) (Kd.R_keptB (HO_1.out) hkp (fun k_ hk_ hs_ => (hk_.2) hs_)) (fun k_ hk_ => ⟨hk_.1.1, fun e_ => Or.elim (ho0.1 k_ e_.symm) (fun hs_ => hk_.2.1 hs_) (fun hn_ => Nat.not_le.2 hk_.2.2 hn_)⟩)); replace HK := mA (Kept.then_ (S := (fun k_ => P1_ k_)) zq6 hkp (fun k_ hs_ => (fun e_ => (HO150.out.1 k_ e_.symm).1) hs_)); replace HB := mA (hb); clear HO150; (try clear hb); (try clear hkp); (try clear ho0)))
      go_roundg kj6
      case measure => have := HK1.out; have := HJ6.out; omega
      case rel => exact ⟨(wrap64 (x7_1 + 1)), zq4, H', ⟨zq18 HK1 HJ6⟩, ⟨zq33 HO_1⟩, ⟨zq6⟩, ⟨zq0⟩⟩
   rw [if_neg c6] at H; replace c6 := decide_eq_false c6; obtain ⟨y139, hy139⟩ : ∃ y_ : List Int, y_ = (([] : List Int)) := ⟨_, rfl⟩
   replace H : (some (y139, false)) = some (r1, r2) := by first | (rw [hy139]; with_reducible exact H) | (have H2_ := (Option.bind_some _ _).symm.trans H; rw [hy139]; with_reducible exact H2_) | (have H2_ := (Option.bind_some _ _).symm.trans H; with_reducible exact H2_) | with_reducible exact H | (rw [hy139]; exact H) | exact H
   have Ny139 := mA hy139; clear hy139; simp only [Option.some.injEq, Prod.mk.injEq] at H; obtain ⟨rfl, rfl⟩ := H; go_wp2_with (first | ((with_reducible refine gate_dst (N := 48) rfl ?_); refine Kd.R_lit (Kd.int .i64) _ 2 ?hg (N := 48) ?hd (xs := ([] : List Int)) (inner := []) (ok := fun _ => True) (okp := fun _ => True) ?hr ?hp (fun _ hk => hk) trivial (Below.refl _ _) (Nat.le_refl _) (by simp) ?_; (case hd => rfl); (case hg => rfl); (case hr => exact zq11); (case hp => exact (Reps.none _ _)); intro v140 w27 ho28 hb hg_ hnew_; clear hg_ hnew_; (first | rw [← Ny139.out] at ho28 | (simp only [Int.reduceToNat] at ho28; rw [← Ny139.out] at ho28)); have HO141 := mA (Kd.R_lower (Kd.R_new' (Kd.R_newM (M := fun k_ => (P1_ k_ ∨ w.heap.size ≤ k_)) ho28 zq20 (fun k_ h_ => .inr h_)) (Kd.R_lt (zq3 HO_1))) (below_size zq0)); replace HO_1 := mA (Kd.R_elder' (zq3 HO_1) (Kd.R_base ho28) hb); replace HK := mA (Kept.below (S := (fun k_ => P1_ k_)) zq6 hb); replace HB := mA (below_step zq0 hb); clear hb ho28)); go_ret2; exact ⟨_, zq7, by (with_reducible repeat (first | apply Kd.R_alloc | apply Kd.R_drewN | apply Kd.R_drew)); exact Kd.R_mono HO141.out (fun _ hk => hk.1.1), zq0, zq6⟩

/-! ### spec_l00Min: function 86 -/
def spec_l00Min.f (a0 : Int) (a1 : Int) : Option (Int) := if a0 < a1 then (some a0) else (some a1)
set_option maxHeartbeats 8000000 in
set_option maxRecDepth 100000 in
theorem spec_l00Min.calls (a0 : Int) (a1 : Int) (r : Int) (w : World) (h : spec_l00Min.f a0 a1 = some r) :
    Calls Try.prog 86 #[.int .i64 a0, .int .i64 a1] w fun e w' => e = .returned (.int .i64 r) ∧ Drawn0 w w' := by
 have H : (if a0 < a1 then (some a0) else (some a1)) = some r := h; clear h; by_cases c3 : a0 < a1
 ·rw [if_pos c3] at H; replace c3 := decide_eq_true c3; obtain rfl := Option.some.inj H; go_enter Try.func86, Try.ntmps86; go_wp2; go_ret; exact ⟨zq4, zq8⟩
 rw [if_neg c3] at H; replace c3 := decide_eq_false c3; obtain rfl := Option.some.inj H; go_enter Try.func86, Try.ntmps86; go_wp2; go_ret; exact ⟨zq4, zq8⟩

end Go.Proofs.Ytlhpejabdmejbaa.PFnExactPermutationMixture
