/- Written by this session's program (wip/tool/xprint.py) over the kit's printer. -/
import Derived.Test.YtdcglkdgepdnpaaPFnExactNearestTablex0
import Derived.Test.YtdcglkdgepdnpaaPFnExactNearestTablex3
import Derived.Test.YtdcglkdgepdnpaaPFnExactNearestTablex4
import Derived.Test.YtdcglkdgepdnpaaPFnExactNearestTablex5
import Derived.Test.YtdcglkdgepdnpaaPFnExactNearestTablex9
namespace Go.Proofs.Ytdcglkdgepdnpaa.PFnExactNearestTable
open Go.RowKit Go.Proofs.YtdcglkdgepdnpaaW.PrintWords Go.Proofs.YtdcglkdgepdnpaaW.PrintLast Go.Proofs.YtdcglkdgepdnpaaW.PrintMore
attribute [local go_sem] max2_int min2_int max_two min_two max_three min_three max_four min_four   -- for this text's walks alone
set_option linter.unusedVariables false
set_option linter.unusedSimpArgs false

/-! ### spec_l00Max: function 48 -/
def spec_l00Max.f (a0 : Int) (a1 : Int) : Option (Int) := if a0 > a1 then (some a0) else (some a1)
set_option maxHeartbeats 8000000 in
set_option maxRecDepth 100000 in
theorem spec_l00Max.calls (a0 : Int) (a1 : Int) (r : Int) (w : World) (h : spec_l00Max.f a0 a1 = some r) :
    Calls Try.prog 48 #[.int .i64 a0, .int .i64 a1] w fun e w' => e = .returned (.int .i64 r) ∧ Drawn0 w w' := by
 have H : (if a0 > a1 then (some a0) else (some a1)) = some r := h; clear h; by_cases c3 : a0 > a1
 ·rw [if_pos c3] at H; have c3b0 : decide (a1 < a0) = true := decide_eq_true c3; clear c3; obtain rfl := Option.some.inj H; go_enter Try.func48, Try.ntmps48; go_wp2; go_ret; exact ⟨zq4, zq10⟩
 rw [if_neg c3] at H; have c3b0 : decide (a1 < a0) = false := decide_eq_false c3; clear c3; obtain rfl := Option.some.inj H; go_enter Try.func48, Try.ntmps48; go_wp2; go_ret; exact ⟨zq4, zq10⟩

/-! ### spec_l05Error: function 25 -/
mutual
def spec_l05Error.l0 : Nat → List (List Int) → Int → Int → Int → List (List Int) → Option (Int)
  | 0, _, _, _, _, _ => none
  | k + 1, x1, x5, x6, x41000, x41001 => if x6 < (x1.length : Int) then (spec_l05Error.l1 k x1 x5 x6 0 x41000 x41001) else (some x5)
def spec_l05Error.l1 : Nat → List (List Int) → Int → Int → Int → Int → List (List Int) → Option (Int)
  | 0, _, _, _, _, _, _ => none
  | k + 1, x1, x5, x6, x7, x41000, x41001 => if 0 ≤ x6 then (if x6 < (x1.length : Int) then (if x7 < ((rd_L1 x1 x6).length : Int) then (if 0 ≤ x7 then (if x6 < (x41001.length : Int) then (if x7 < ((rd_L1 x41001 x6).length : Int) then ((spec_l00Max.f (wrap64 ((wrap64 (x41000 * (rd (rd_L1 x1 x6) x7))) - (rd (rd_L1 x41001 x6) x7))) (wrap64 (-(wrap64 ((wrap64 (x41000 * (rd (rd_L1 x1 x6) x7))) - (rd (rd_L1 x41001 x6) x7)))))).bind fun t232 => (spec_l05Error.l1 k x1 (wrap64 (x5 + t232)) x6 (wrap64 (x7 + 1)) x41000 x41001)) else (none)) else (none)) else (none)) else (spec_l05Error.l0 k x1 x5 (wrap64 (x6 + 1)) x41000 x41001)) else (none)) else (none)
end
def spec_l05Error.f (k : Nat) (a0_0 : Int) (l0_1 : List (List Int)) (l1 : List (List Int)) : Option (Int) := spec_l05Error.l0 k l1 0 0 a0_0 l0_1
theorem spec_l05Error.mono_l : ∀ k, (∀ y0 y1 y2 y3 y4, LeO (spec_l05Error.l0 k y0 y1 y2 y3 y4) (spec_l05Error.l0 (k + 1) y0 y1 y2 y3 y4)) ∧ (∀ y0 y1 y2 y3 y4 y5, LeO (spec_l05Error.l1 k y0 y1 y2 y3 y4 y5) (spec_l05Error.l1 (k + 1) y0 y1 y2 y3 y4 y5))
  | 0 => ⟨fun _ _ _ _ _ r h => by simp [spec_l05Error.l0] at h, fun _ _ _ _ _ _ r h => by simp [spec_l05Error.l1] at h⟩
  | k + 1 => by
   obtain ⟨ih0, ih1⟩ := spec_l05Error.mono_l k
   refine ⟨?_, ?_⟩ <;> intros
   all_goals first | unfold spec_l05Error.l0 | unfold spec_l05Error.l1
   all_goals repeat' first | (with_reducible first | apply ih0 | apply ih1 | exact LeO.refl _ | exact LeO.none _ | refine LeO.ite ?_ ?_ | refine LeO.bind ?_ (fun _ => ?_)) | apply ih0 | apply ih1 | exact LeO.none _ | refine LeO.ite ?_ ?_ | refine LeO.bind ?_ (fun _ => ?_)
theorem spec_l05Error.mono : ∀ a0 a1 a2 k, LeO (spec_l05Error.f k a0 a1 a2) (spec_l05Error.f (k + 1) a0 a1 a2) := by
  intro a0 a1 a2 k
  obtain ⟨ih0, ih1⟩ := spec_l05Error.mono_l k
  unfold spec_l05Error.f
  repeat' first | (with_reducible first | apply ih0 | apply ih1 | exact LeO.refl _ | exact LeO.none _ | refine LeO.ite ?_ ?_ | refine LeO.bind ?_ (fun _ => ?_)) | apply ih0 | apply ih1 | exact LeO.none _ | refine LeO.ite ?_ ?_ | refine LeO.bind ?_ (fun _ => ?_)
set_option maxHeartbeats 8000000 in
set_option maxRecDepth 100000 in
theorem spec_l05Error.calls (k : Nat) (gv0_0_ : Nat) (a0_0 : Int) (A0_1 : Option Addr) (c0_1 : Nat) (l0_1 : List (List Int)) (A1 : Option Addr) (c1 : Nat) (l1 : List (List Int)) (r : Int) (w : World) (hbx0_0_ : w.heap[gv0_0_]? = some (.cells #[.int .i64 a0_0, .slice A0_1 l0_1.length c0_1] 28 (0, 0))) (hr0_1 : Kd.C (Kd.slice 2 (Kd.int .i64)) w A0_1 l0_1.length l0_1) (hc0_1 : l0_1.length ≤ c0_1) (hr1 : Kd.C (Kd.slice 2 (Kd.int .i64)) w A1 l1.length l1) (hc1 : l1.length ≤ c1) (h : spec_l05Error.f k a0_0 l0_1 l1 = some r) :
    Calls Try.prog 25 #[.pointer (some ⟨gv0_0_, 0, none⟩), .slice A1 l1.length c1] w fun e w' => e = .returned (.int .i64 r) ∧ Below w.heap.size w w' := by
 have HR0_1 := mA hr0_1; have HC0_1 := mA hc0_1; clear hr0_1 hc0_1; have HR1 := mA hr1; have HC1 := mA hc1; clear hr1 hc1; have BK40 := mA hbx0_0_; clear hbx0_0_; have HB := mA (Below.refl w.heap.size w); have H : (spec_l05Error.l0 k l1 0 0 a0_0 l0_1) = some r := h; clear h; have H' := mA H; clear H; go_enter Try.func25, Try.ntmps25; go_wp2
 repeat (go_quiet (fail); try go_wp2)
 go_loopg [5, 6] k (fun kq v5 v6 w' => ∃ (x5_1 : Int) (x6_1 : Int), v5 = .int .i64 x5_1 ∧ v6 = .int .i64 x6_1 ∧ Aside0 (spec_l05Error.l0 kq l1 x5_1 x6_1 a0_0 l0_1 = some r) ∧ Aside0 (kq ≤ k) ∧ Aside0 (w'.heap[gv0_0_]? = some (.cells #[.int .i64 a0_0, (.slice A0_1 l0_1.length c0_1)] 28 (0, 0))) ∧ Aside0 (Below w.heap.size w w'))
 case atStart => exact ⟨(0), (0), zq4, zq4, H', ⟨Nat.le_refl _⟩, ⟨zq0 BK40⟩, ⟨zq1⟩⟩
 case round =>
  clear H'; (try clear c1); obtain ⟨x5_1, x6_1, rfl, rfl, HA, HK1, BK40, HB⟩ := hrel
  cases gk with
  | zero => exact absurd HA.out (by simp [spec_l05Error.l0])
  | succ k1 =>
   have H := HA.out; clear HA; simp only [spec_l05Error.l0] at H; refine sqC (x6_1 < (l1.length : Int)) (fun c3 => ?_) (fun c3 => ?_)
   ·rw [if_neg c3] at H; have c3b0 : decide (x6_1 < (l1.length : Int)) = false := decide_eq_false c3; clear c3; obtain rfl := Option.some.inj H; go_wp2
    repeat (go_quiet (fail); try go_wp2)
    go_ret; exact ⟨zq6, zq1⟩
   rw [if_pos c3] at H; have c3b0 : decide (x6_1 < (l1.length : Int)) = true := decide_eq_true c3; clear c3; have H' := mA H; clear H; go_wp2
   repeat (go_quiet (fail); try go_wp2)
   go_loopg [5, 7] k1 (fun kq v5 v7 w' => ∃ (x5_2 : Int) (x7_2 : Int), v5 = .int .i64 x5_2 ∧ v7 = .int .i64 x7_2 ∧ Aside0 (spec_l05Error.l1 kq l1 x5_2 x6_1 x7_2 a0_0 l0_1 = some r) ∧ Aside0 (kq ≤ k1) ∧ Aside0 (w'.heap[gv0_0_]? = some (.cells #[.int .i64 a0_0, (.slice A0_1 l0_1.length c0_1)] 28 (0, 0))) ∧ Aside0 (Below w.heap.size w w'))
   case atStart => exact ⟨(x5_1), (0), zq4, zq4, H', ⟨Nat.le_refl _⟩, ⟨zq0 BK40⟩, ⟨zq1⟩⟩
   case round =>
    clear H'; (try clear c1); (try clear c3); (try clear c3b0); obtain ⟨x5_2, x7_2, rfl, rfl, HA, HK2, BK40, HB⟩ := hrel
    cases gk with
    | zero => exact absurd HA.out (by simp [spec_l05Error.l1])
    | succ k2 =>
     have H := HA.out; clear HA; simp only [spec_l05Error.l1] at H; obtain ⟨c4, H⟩ := sqI H; have c4b0 : decide (0 ≤ x6_1) = true := decide_eq_true c4; clear c4; obtain ⟨c5, H⟩ := sqI H; replace c5 := decide_eq_true c5; refine sqC (x7_2 < ((rd_L1 l1 x6_1).length : Int)) (fun c6 => ?_) (fun c6 => ?_)
     ·rw [if_neg c6] at H; have c6b0 : decide (x7_2 < ((rd_L1 l1 x6_1).length : Int)) = false := decide_eq_false c6; clear c6; have H' := mA H; clear H; have p227 : 0 ≤ (x6_1 : Int) := sqd; have q227 : x6_1 < (l1.length : Int) := sqd; obtain ⟨ad227, A227_0, c227_0, e227, hx227_0, hl227_0, hi227_0⟩ := at_L1 HR1.out x6_1 p227 q227
      cases e227
      replace hx227_0 := sqh HB hx227_0; have HR227_0 := mA hi227_0; have HC227_0 := mA hl227_0; clear hi227_0 hl227_0; replace p227 := eq_true p227; replace q227 := eq_true q227; go_wp2
      repeat (go_quiet (fail); try go_wp2)
      go_roundg k2
      case measure => have := HK1.out; have := HK2.out; omega
      case rel => exact ⟨(x5_2), (wrap64 (x6_1 + 1)), zq4, zq4, H', ⟨zq16 HK1 HK2⟩, ⟨zq0 BK40⟩, ⟨zq1⟩⟩
     rw [if_pos c6] at H; have c6b0 : decide (x7_2 < ((rd_L1 l1 x6_1).length : Int)) = true := decide_eq_true c6; clear c6; obtain ⟨c7, H⟩ := sqI H; replace c7 := decide_eq_true c7; obtain ⟨c8, H⟩ := sqI H; replace c8 := decide_eq_true c8; obtain ⟨c9, H⟩ := sqI H; have c9b0 : decide (x7_2 < ((rd_L1 l0_1 x6_1).length : Int)) = true := decide_eq_true c9; clear c9; obtain ⟨t232, A10, H⟩ := sqB H; have H' := mA H; clear H; have p227 : 0 ≤ (x6_1 : Int) := sqd; have q227 : x6_1 < (l1.length : Int) := sqd; obtain ⟨ad227, A227_0, c227_0, e227, hx227_0, hl227_0, hi227_0⟩ := at_L1 HR1.out x6_1 p227 q227
     cases e227
     replace hx227_0 := sqh HB hx227_0; have HR227_0 := mA hi227_0; have HC227_0 := mA hl227_0; clear hi227_0 hl227_0; replace p227 := eq_true p227; replace q227 := eq_true q227; obtain ⟨hcz11_0, hfz11_0⟩ := sqW0 BK40; obtain ⟨hcz11_1, hfz11_1⟩ := sqW1 BK40; have p228 : 0 ≤ (x6_1 : Int) := sqd; have q228 : x6_1 < (l1.length : Int) := sqd; obtain ⟨ad228, A228_0, c228_0, e228, hx228_0, hl228_0, hi228_0⟩ := at_L1 HR1.out x6_1 p228 q228; obtain rfl : ad227 = ad228 := (by injection e228); replace hx228_0 := sqh HB hx228_0; have HR228_0 := mA hi228_0; have HC228_0 := mA hl228_0; clear hi228_0 hl228_0; replace p228 := eq_true p228; replace q228 := eq_true q228; have ea_ := Option.some.inj (hx227_0.symm.trans hx228_0)
     injection ea_ with ea_ en_ ec_
     subst ea_; subst ec_; clear en_; have p229 : 0 ≤ (x7_2 : Int) := sqd; have q229 : x7_2 < ((rd_L1 l1 x6_1).length : Int) := sqd; obtain ⟨ad229, e229, hx229_0⟩ := Kd.at_int HR228_0.out x7_2 p229 q229
     cases e229
     replace hx229_0 := sqh HB hx229_0; replace p229 := eq_true p229; replace q229 := eq_true q229; have p230 : 0 ≤ (x6_1 : Int) := sqd; have q230 : x6_1 < (l0_1.length : Int) := sqd; obtain ⟨ad230, A230_0, c230_0, e230, hx230_0, hl230_0, hi230_0⟩ := at_L1 HR0_1.out x6_1 p230 q230
     cases e230
     replace hx230_0 := sqh HB hx230_0; have HR230_0 := mA hi230_0; have HC230_0 := mA hl230_0; clear hi230_0 hl230_0; replace p230 := eq_true p230; replace q230 := eq_true q230; have p231 : 0 ≤ (x7_2 : Int) := sqd; have q231 : x7_2 < ((rd_L1 l0_1 x6_1).length : Int) := sqd; obtain ⟨ad231, e231, hx231_0⟩ := Kd.at_int HR230_0.out x7_2 p231 q231
     cases e231
     replace hx231_0 := sqh HB hx231_0; replace p231 := eq_true p231; replace q231 := eq_true q231; go_wp2_with (first | (go_at_call 48; (with_reducible refine (spec_l00Max.calls (wrap64 ((wrap64 (a0_0 * (rd (rd_L1 l1 x6_1) x7_2))) - (rd (rd_L1 l0_1 x6_1) x7_2))) (wrap64 (-(wrap64 ((wrap64 (a0_0 * (rd (rd_L1 l1 x6_1) x7_2))) - (rd (rd_L1 l0_1 x6_1) x7_2))))) t232 _ A10.out).mono ?_); rintro e w' ⟨rfl, ⟨nd, rfl⟩⟩; (try first | exact ⟨rfl, _, World.drewN_drewN _ _ _⟩ | exact ⟨rfl, _, Eq.trans (World.drewN_drewN _ _ _) (congrArg (World.drewN _) (Nat.add_assoc _ _ _))⟩)))
     repeat (go_quiet (first | (go_at_call 48; (with_reducible refine (spec_l00Max.calls (wrap64 ((wrap64 (a0_0 * (rd (rd_L1 l1 x6_1) x7_2))) - (rd (rd_L1 l0_1 x6_1) x7_2))) (wrap64 (-(wrap64 ((wrap64 (a0_0 * (rd (rd_L1 l1 x6_1) x7_2))) - (rd (rd_L1 l0_1 x6_1) x7_2))))) t232 _ A10.out).mono ?_); rintro e w' ⟨rfl, ⟨nd, rfl⟩⟩; (try first | exact ⟨rfl, _, World.drewN_drewN _ _ _⟩ | exact ⟨rfl, _, Eq.trans (World.drewN_drewN _ _ _) (congrArg (World.drewN _) (Nat.add_assoc _ _ _))⟩))); try go_wp2_with (first | (go_at_call 48; (with_reducible refine (spec_l00Max.calls (wrap64 ((wrap64 (a0_0 * (rd (rd_L1 l1 x6_1) x7_2))) - (rd (rd_L1 l0_1 x6_1) x7_2))) (wrap64 (-(wrap64 ((wrap64 (a0_0 * (rd (rd_L1 l1 x6_1) x7_2))) - (rd (rd_L1 l0_1 x6_1) x7_2))))) t232 _ A10.out).mono ?_); rintro e w' ⟨rfl, ⟨nd, rfl⟩⟩; (try first | exact ⟨rfl, _, World.drewN_drewN _ _ _⟩ | exact ⟨rfl, _, Eq.trans (World.drewN_drewN _ _ _) (congrArg (World.drewN _) (Nat.add_assoc _ _ _))⟩))))
     go_roundg k2
     case measure => have := HK1.out; have := HK2.out; omega
     case rel => exact ⟨(wrap64 (x5_2 + t232)), (wrap64 (x7_2 + 1)), zq4, zq4, H', ⟨zq16 HK1 HK2⟩, ⟨zq0 BK40⟩, ⟨zq1⟩⟩

/-! ### spec_l00Own: function 49 -/
def spec_l00Own.f (l0 : List Int) : Option (List Int) := (some (([] : List Int) : List Int)).bind fun y233 => (if y233.length + l0.length < 17592186044416 then (some (y233 ++ l0)) else (none))
set_option maxHeartbeats 8000000 in
set_option maxRecDepth 100000 in
theorem spec_l00Own.calls (A0 : Option Addr) (c0 : Nat) (l0 : List Int) (r : List Int) (w : World) (hr0 : Kd.C (Kd.int .i64) w A0 l0.length l0) (hc0 : l0.length ≤ c0) (h : spec_l00Own.f l0 = some r) :
    Calls Try.prog 49 #[.slice A0 l0.length c0] w fun e w' => ∃ v0_ : Value, e = .returned (v0_) ∧ Kd.R (Kd.int .i64) 2 w' w.heap.size (fun _ => True) v0_ r ∧ Below w.heap.size w w' := by
 have HR0 := mA hr0; have HC0 := mA hc0; clear hr0 hc0; have HB := mA (Below.refl w.heap.size w); have H : ((some (([] : List Int) : List Int)).bind fun y233 => (if y233.length + l0.length < 17592186044416 then (some (y233 ++ l0)) else (none))) = some r := h; clear h; obtain ⟨y233, hy233⟩ : ∃ y_ : List Int, y_ = (([] : List Int)) := ⟨_, rfl⟩
 replace H : (if y233.length + l0.length < 17592186044416 then (some (y233 ++ l0)) else (none)) = some r := sqHY hy233 H
 have Ny233 := mA hy233; clear hy233; obtain ⟨c2, H⟩ := sqI H; have LMc2 := mA c2; clear c2; obtain ⟨y236, hy236⟩ : ∃ y_ : List Int, y_ = (y233 ++ l0) := ⟨_, rfl⟩
 replace H : (some y236) = some r := sqHY hy236 H
 have Ny236 := mA hy236; clear hy236; obtain rfl := Option.some.inj H; go_enter Try.func49, Try.ntmps49; go_wp2_with (first | ((with_reducible refine gate_dst (N := 3) rfl ?_); refine Kd.R_lit (Kd.int .i64) _ 2 ?hg (N := 3) ?hd (xs := ([] : List Int)) (inner := []) (ok := fun _ => True) (okp := fun _ => True) ?hr ?hp (fun _ hk => hk) trivial (Below.refl _ _) (Nat.le_refl _) (by simp) ?_; (case hd => rfl); (case hg => rfl); (case hr => exact zq12); (case hp => exact (Reps.none _ _)); intro v234 w3 ho4 hb hg_ hnew_; clear hg_ hnew_; (first | rw [← Ny233.out] at ho4 | (simp only [Int.reduceToNat] at ho4; rw [← Ny233.out] at ho4)); have HO235 := mA (Kd.R_lower ho4 (below_size zq3)); replace HB := mA (below_step zq3 hb); clear hb ho4) | ((with_reducible refine gate_builtin (b := .append) (xs := #[.tmp 3, .tmp 4]) rfl ?_); at_builtin; refine Kd.R_append_rows (Kd.int .i64) (w0 := w) w.heap.size rfl (.tmp 3) (.tmp 4) 46 2 (.int .i64 0) 8 rfl Try.underlying46 info2 rfl (by decide) (by omega) v234 y233 l0 _ _ _ (fun _ => True) (fun _ => False) rfl rfl ?aO ?aR (fun _ _ h => h) (fun _ h => h.elim) ?aF ?aB ?aS ?aL ?_; (case aR => exact zq7 HR0); (case aB => exact zq23); (case aF => exact zq31); (case aO => exact zq35 HO235); (case aS => exact zq27); (case aL => exact zq25 LMc2); intro v237 w5 ho hb hg hat; rw [← Ny236.out] at ho; replace HB := mA (hb); have HO238 := mA (ho); clear HO235 ho hb hg hat)); go_ret; exact ⟨_, zq6, zq2 HO238, zq3⟩

/-! ### spec_l05Copy: function 26 -/
def spec_l05Copy.l0 : Nat → List (List Int) → List (List Int) → Int → Option ((List (List Int)))
  | 0, _, _, _ => none
  | k + 1, x0, x3, x4 => if x4 < (x0.length : Int) then (if 0 ≤ x4 then ((spec_l00Own.f (rd_L1 x0 x4)).bind fun t243 => (if x3.length < 5864062014805 then (spec_l05Copy.l0 k x0 (x3 ++ [t243]) (wrap64 (x4 + 1))) else (none))) else (none)) else (some x3)
def spec_l05Copy.f (k : Nat) (l0 : List (List Int)) : Option ((List (List Int))) := spec_l05Copy.l0 k l0 (([] : List (List Int))) 0
theorem spec_l05Copy.mono_l : ∀ k, (∀ y0 y1 y2, LeO (spec_l05Copy.l0 k y0 y1 y2) (spec_l05Copy.l0 (k + 1) y0 y1 y2))
  | 0 => fun _ _ _ r h => by simp [spec_l05Copy.l0] at h
  | k + 1 => by
   have ih0 := spec_l05Copy.mono_l k
   intros
   unfold spec_l05Copy.l0
   all_goals repeat' first | (with_reducible first | apply ih0 | exact LeO.refl _ | exact LeO.none _ | refine LeO.ite ?_ ?_ | refine LeO.bind ?_ (fun _ => ?_)) | apply ih0 | exact LeO.none _ | refine LeO.ite ?_ ?_ | refine LeO.bind ?_ (fun _ => ?_)
theorem spec_l05Copy.mono : ∀ a0 k, LeO (spec_l05Copy.f k a0) (spec_l05Copy.f (k + 1) a0) := by
  intro a0 k
  have ih0 := spec_l05Copy.mono_l k
  unfold spec_l05Copy.f
  repeat' first | (with_reducible first | apply ih0 | exact LeO.refl _ | exact LeO.none _ | refine LeO.ite ?_ ?_ | refine LeO.bind ?_ (fun _ => ?_)) | apply ih0 | exact LeO.none _ | refine LeO.ite ?_ ?_ | refine LeO.bind ?_ (fun _ => ?_)
set_option maxHeartbeats 8000000 in
set_option maxRecDepth 100000 in
theorem spec_l05Copy.calls (k : Nat) (A0 : Option Addr) (c0 : Nat) (l0 : List (List Int)) (r : List (List Int)) (w : World) (hr0 : Kd.C (Kd.slice 2 (Kd.int .i64)) w A0 l0.length l0) (hc0 : l0.length ≤ c0) (h : spec_l05Copy.f k l0 = some r) :
    Calls Try.prog 26 #[.slice A0 l0.length c0] w fun e w' => ∃ v0_ : Value, e = .returned (v0_) ∧ Kd.S (Kd.slice 2 (Kd.int .i64)) 46 w' w.heap.size (fun _ => True) v0_ r ∧ Below w.heap.size w w' := by
 have HR0 := mA hr0; have HC0 := mA hc0; clear hr0 hc0; have HB := mA (Below.refl w.heap.size w); have H : (spec_l05Copy.l0 k l0 (([] : List (List Int))) 0) = some r := h; clear h; obtain ⟨y239, hy239⟩ : ∃ y_ : List (List Int), y_ = (([] : List (List Int))) := ⟨_, rfl⟩
 replace H : (spec_l05Copy.l0 k l0 y239 0) = some r := sqHY hy239 H
 have Ny239 := mA hy239; clear hy239; have H' := mA H; clear H; go_enter Try.func26, Try.ntmps26; go_wp2_with (first | ((with_reducible refine gate_dst (N := 5) rfl ?_); refine Kd.S_lit (Kd.slice 2 (Kd.int .i64)) _ 46 ?hg (N := 5) ?hd (xs := ([] : List (List Int))) (inner := []) (ok := fun _ => True) (okp := fun _ => True) ?hr ?hp (fun _ hk => hk) trivial (Below.refl _ _) (Nat.le_refl _) (by simp) ?_; (case hd => rfl); (case hg => rfl); (case hr => exact zq12); (case hp => exact (Reps.none _ _)); intro v240 w2 ho3 hb hg_ hnew_; clear hg_ hnew_; (first | rw [← Ny239.out] at ho3 | (simp only [Int.reduceToNat] at ho3; rw [← Ny239.out] at ho3)); have HO241 := mA (Kd.S_lower ho3 (below_size zq3)); replace HB := mA (below_step zq3 hb); clear hb ho3)); go_loopg [3, 4] k (fun kq v3 v4 w' => ∃ (x3_1 : List (List Int)) (x4_1 : Int), v4 = .int .i64 x4_1 ∧ Aside0 (spec_l05Copy.l0 kq l0 x3_1 x4_1 = some r) ∧ Aside0 (kq ≤ k) ∧ Aside0 (Kd.S (Kd.slice 2 (Kd.int .i64)) 46 w' w.heap.size (fun _ => True) v3 x3_1) ∧ Aside0 (Below w.heap.size w w'))
 case atStart => exact ⟨(y239), (0), zq4, H', ⟨Nat.le_refl _⟩, ⟨zq5 HO241⟩, ⟨zq3⟩⟩
 case round =>
  clear H'; obtain ⟨x3_1, x4_1, rfl, HA, HK1, HO_3, HB⟩ := hrel
  cases gk with
  | zero => exact absurd HA.out (by simp [spec_l05Copy.l0])
  | succ k1 =>
   have H := HA.out; clear HA; simp only [spec_l05Copy.l0] at H; refine sqC (x4_1 < (l0.length : Int)) (fun c4 => ?_) (fun c4 => ?_)
   ·rw [if_neg c4] at H; have c4b0 : decide (x4_1 < (l0.length : Int)) = false := decide_eq_false c4; clear c4; obtain rfl := Option.some.inj H; go_wp2; go_ret; exact ⟨_, zq6, zq5 HO_3, zq3⟩
   rw [if_pos c4] at H; have c4b0 : decide (x4_1 < (l0.length : Int)) = true := decide_eq_true c4; clear c4; obtain ⟨c5, H⟩ := sqI H; replace c5 := decide_eq_true c5; obtain ⟨t243, A6, H⟩ := sqB H; obtain ⟨c7, H⟩ := sqI H; have LMc7 := mA c7; clear c7; obtain ⟨y246, hy246⟩ : ∃ y_ : List (List Int), y_ = (x3_1 ++ [t243]) := ⟨_, rfl⟩
   replace H : (spec_l05Copy.l0 k1 l0 y246 (wrap64 (x4_1 + 1))) = some r := sqHY hy246 H
   have Ny246 := mA hy246; clear hy246; have H' := mA H; clear H; have p242 : 0 ≤ (x4_1 : Int) := sqd; have q242 : x4_1 < (l0.length : Int) := sqd; obtain ⟨ad242, A242_0, c242_0, e242, hx242_0, hl242_0, hi242_0⟩ := at_L1 HR0.out x4_1 p242 q242
   cases e242
   replace hx242_0 := sqh HB hx242_0; have HR242_0 := mA hi242_0; have HC242_0 := mA hl242_0; clear hi242_0 hl242_0; replace p242 := eq_true p242; replace q242 := eq_true q242; go_wp2_with (first | (refine sqG 49 (some 17) Try.func49 #[.slice A242_0 (rd_L1 l0 x4_1).length c242_0] (h := ?_); (with_reducible refine (spec_l00Own.calls _ _ (rd_L1 l0 x4_1) t243 _ ?s1 ?s2 A6.out).mono ?_); (case s1 => exact zq7 HR242_0); (case s2 => exact HC242_0.out); rintro e w8 ⟨v244, rfl, ho0, hb⟩; refine ⟨_, rfl, ?_⟩; replace HO_3 := mA (Kd.S_elder' (zq5 HO_3) (Kd.R_base ho0) hb); have HO245 := mA (Kd.R_lower ho0 (below_size zq3)); replace HB := mA (below_step zq3 hb); (try clear hb ho0); obtain ⟨Ao10, co10, eo10⟩ := Kd.R_slice HO245.out; subst eo10) | ((with_reducible refine gate_builtin (b := .append) (xs := #[.tmp 12, .tmp 18]) rfl ?_); at_builtin; refine Kd.S_append (Kd.slice 2 (Kd.int .i64)) (w0 := w) w.heap.size rfl (.tmp 12) (.tmp 18) 22 46 (.slice none 0 0) 24 rfl Try.underlying22 info46 rfl (by decide) (by omega) u3 x3_1 t243 [.slice Ao10 t243.length co10] (fun _ => True) (fun k_ => some k_ = (.slice Ao10 t243.length co10 : Value).ownBlock) rfl rfl ?aP (fun k_ hk_ => ((Kd.R_mono (ok' := fun k_ => ((fun _ => True)) k_ ∧ some k_ ≠ (u3 : Value).ownBlock) (Kd.R_apart' (HO245.out) (Kd.S_typed HO_3.out) (by decide)) (fun k_ hk => ⟨trivial, hk.2⟩))).1 k_ hk_.symm) ?aF ?aO ?aB ?aS ?aL ?_; (case aP => exact zq77 HO245 HO_3); (case aB => exact zq23); (case aF => exact zq31); (case aO => exact (by (with_reducible repeat (first | apply Kd.S_alloc | apply Kd.S_drewN | apply Kd.S_drew)); exact Kd.S_mono HO_3.out (fun k_ hk => ⟨trivial, fun e_ => hk.2 e_⟩))); (case aS => exact zq27); (case aL => exact zq25 LMc7); intro v247 w9 ho hb hg hat; rw [← Ny246.out] at ho; replace HB := mA (hb); have HO248 := mA (ho); clear HO_3 HO245 ho hb hg hat)); go_roundg k1
   case measure => have := HK1.out; omega
   case rel => exact ⟨(y246), (wrap64 (x4_1 + 1)), zq4, H', ⟨zq25 HK1⟩, ⟨zq5 HO248⟩, ⟨zq3⟩⟩

/-! ### spec_NearestTable: function 10 -/
-- given by hand
mutual
def spec_NearestTable.j0 : Nat → Bool → Int → List (List Int) → Option ((List (List Int)) × Int × Bool)
  | 0, _, _, _ => none
  | k + 1, x16, x250000, x250001 => if x16 = true then (some (([] : List (List Int)), 0, false)) else ((spec_l05Bounds.f k x250001 x250000).bind fun bt252 => (spec_NearestTable.l0 k bt252.1 (([] : List (List Int))) (-1) true x250000 x250001))
def spec_NearestTable.l0 : Nat → List (List Int) → List (List Int) → Int → Bool → Int → List (List Int) → Option ((List (List Int)) × Int × Bool)
  | 0, _, _, _, _, _, _ => none
  | k + 1, x5, x7, x8, x9, x250000, x250001 => if x9 = true then ((spec_l05Error.f k x250000 x250001 x5).bind fun t261 => (if x8 < 0 then ((spec_l05Rounds.f k x250000 x250001 x5).bind fun t262 => (spec_NearestTable.j2 k x5 x7 x8 t261 t262 x250000 x250001)) else (if t261 < x8 then ((spec_l05Rounds.f k x250000 x250001 x5).bind fun t263 => (spec_NearestTable.j2 k x5 x7 x8 t261 t263 x250000 x250001)) else (spec_NearestTable.j2 k x5 x7 x8 t261 false x250000 x250001)))) else (some (x7, x8, true))
def spec_NearestTable.j2 : Nat → List (List Int) → List (List Int) → Int → Int → Bool → Int → List (List Int) → Option ((List (List Int)) × Int × Bool)
  | 0, _, _, _, _, _, _, _ => none
  | k + 1, x5, x7, x8, x10, x41, x250000, x250001 => if x41 = true then ((spec_l05Copy.f k x5).bind fun t264 => ((spec_l05Next.f k x250000 x250001 x5).bind fun bt267 => (spec_NearestTable.l0 k bt267.2 t264 x10 bt267.1 x250000 x250001))) else ((spec_l05Next.f k x250000 x250001 x5).bind fun bt274 => (spec_NearestTable.l0 k bt274.2 x7 x8 bt274.1 x250000 x250001))
end
def spec_NearestTable.f (k : Nat) (a0_0 : Int) (l0_1 : List (List Int)) : Option ((List (List Int)) × Int × Bool) := (spec_l05Is.f k a0_0 l0_1).bind fun t250 => (if t250 = true then ((spec_l05Few.f k a0_0 l0_1).bind fun t251 => (spec_NearestTable.j0 k (!t251) a0_0 l0_1)) else (spec_NearestTable.j0 k true a0_0 l0_1))
theorem spec_NearestTable.mono_l : ∀ k, (∀ y0 y1 y2, LeO (spec_NearestTable.j0 k y0 y1 y2) (spec_NearestTable.j0 (k + 1) y0 y1 y2)) ∧ (∀ y0 y1 y2 y3 y4 y5, LeO (spec_NearestTable.l0 k y0 y1 y2 y3 y4 y5) (spec_NearestTable.l0 (k + 1) y0 y1 y2 y3 y4 y5)) ∧ (∀ y0 y1 y2 y3 y4 y5 y6, LeO (spec_NearestTable.j2 k y0 y1 y2 y3 y4 y5 y6) (spec_NearestTable.j2 (k + 1) y0 y1 y2 y3 y4 y5 y6))
  | 0 => ⟨fun _ _ _ r h => by simp [spec_NearestTable.j0] at h, fun _ _ _ _ _ _ r h => by simp [spec_NearestTable.l0] at h, fun _ _ _ _ _ _ _ r h => by simp [spec_NearestTable.j2] at h⟩
  | k + 1 => by
   obtain ⟨ih0, ih1, ih2⟩ := spec_NearestTable.mono_l k
   refine ⟨?_, ?_, ?_⟩ <;> intros
   all_goals first | unfold spec_NearestTable.j0 | unfold spec_NearestTable.l0 | unfold spec_NearestTable.j2
   all_goals repeat' first | (with_reducible first | apply ih0 | apply ih1 | apply ih2 | apply spec_l05Bounds.mono | apply spec_l05Copy.mono | apply spec_l05Error.mono | apply spec_l05Few.mono | apply spec_l05Next.mono | apply spec_l05Is.mono | apply spec_l05Rounds.mono | exact LeO.refl _ | exact LeO.none _ | refine LeO.ite ?_ ?_ | refine LeO.bind ?_ (fun _ => ?_)) | apply ih0 | apply ih1 | apply ih2 | apply spec_l05Bounds.mono | apply spec_l05Copy.mono | apply spec_l05Error.mono | apply spec_l05Few.mono | apply spec_l05Next.mono | apply spec_l05Is.mono | apply spec_l05Rounds.mono | exact LeO.none _ | refine LeO.ite ?_ ?_ | refine LeO.bind ?_ (fun _ => ?_)
theorem spec_NearestTable.mono : ∀ a0 a1 k, LeO (spec_NearestTable.f k a0 a1) (spec_NearestTable.f (k + 1) a0 a1) := by
  intro a0 a1 k
  obtain ⟨ih0, ih1, ih2⟩ := spec_NearestTable.mono_l k
  unfold spec_NearestTable.f
  repeat' first | (with_reducible first | apply ih0 | apply ih1 | apply ih2 | apply spec_l05Bounds.mono | apply spec_l05Copy.mono | apply spec_l05Error.mono | apply spec_l05Few.mono | apply spec_l05Next.mono | apply spec_l05Is.mono | apply spec_l05Rounds.mono | exact LeO.refl _ | exact LeO.none _ | refine LeO.ite ?_ ?_ | refine LeO.bind ?_ (fun _ => ?_)) | apply ih0 | apply ih1 | apply ih2 | apply spec_l05Bounds.mono | apply spec_l05Copy.mono | apply spec_l05Error.mono | apply spec_l05Few.mono | apply spec_l05Next.mono | apply spec_l05Is.mono | apply spec_l05Rounds.mono | exact LeO.none _ | refine LeO.ite ?_ ?_ | refine LeO.bind ?_ (fun _ => ?_)
set_option maxHeartbeats 8000000 in
set_option maxRecDepth 100000 in
theorem spec_NearestTable.calls (k : Nat) (a0_0 : Int) (A0_1 : Option Addr) (c0_1 : Nat) (l0_1 : List (List Int)) (r1 : List (List Int)) (r2 : Int) (r3 : Bool) (w : World) (hr0_1 : Kd.C (Kd.slice 2 (Kd.int .i64)) w A0_1 l0_1.length l0_1) (hc0_1 : l0_1.length ≤ c0_1) (h : spec_NearestTable.f k a0_0 l0_1 = some (r1, r2, r3)) :
    Calls Try.prog 10 #[.agg #[.int .i64 a0_0, .slice A0_1 l0_1.length c0_1]] w fun e w' => ∃ v0_ : Value, e = .returned (.tuple #[v0_, .int .i64 r2, .bool r3]) ∧ Kd.S (Kd.slice 2 (Kd.int .i64)) 46 w' w.heap.size (fun _ => True) v0_ r1 ∧ Below w.heap.size w w' := by
 have hu28 := Try.underlying28; have HR0_1 := mA hr0_1; have HC0_1 := mA hc0_1; clear hr0_1 hc0_1; have HB := mA (Below.refl w.heap.size w); have H : ((spec_l05Is.f k a0_0 l0_1).bind fun t250 => (if t250 = true then ((spec_l05Few.f k a0_0 l0_1).bind fun t251 => (spec_NearestTable.j0 k (!t251) a0_0 l0_1)) else (spec_NearestTable.j0 k true a0_0 l0_1))) = some (r1, r2, r3) := h; clear h; have HC2 := mA H; clear H; go_enter Try.func10, Try.ntmps10
 go_upto_region 1 with (first | (refine sqX 1 #[.int .i64 a0_0, .slice A0_1 l0_1.length c0_1] 28 ?_; intro gb249 hg w3 hbox hb; have BK249 := mA (hbox); have GW249 := mA ((zq9 : w.heap.size ≤ gb249)); have GE249 := mA ((zq9 : w.heap.size ≤ gb249)); replace HB := mA (below_step zq3 hb); clear hb hbox hg))
 (try simp only [Act.put, List.setIfInBounds_toArray, List.set_cons_zero, List.set_cons_succ]); go_cut [16] (fun v16 wc => ∃ (kq : Nat) (x16_1 : Bool), v16 = .bool x16_1 ∧ Aside0 (spec_NearestTable.j0 kq x16_1 a0_0 l0_1 = some (r1, r2, r3)) ∧ Aside0 (kq ≤ k) ∧ Aside0 (wc.heap[gb249]? = some (.cells #[.int .i64 a0_0, (.slice A0_1 l0_1.length c0_1)] 28 (0, 0))) ∧ Aside0 (Below w.heap.size w wc))
 case first =>
  have H := HC2.out; clear HC2; obtain ⟨t250, A4, H⟩ := sqB H; by_cases c5 : t250 = true
  ·subst c5; rw [if_pos rfl] at H; obtain ⟨t251, A6, H⟩ := sqB H; have H' := mA H; clear H; go_wp2_with (first | (refine sqG 17 (some 11) Try.func17 #[.pointer (some ⟨gb249, 0, none⟩)] (h := ?_); (with_reducible refine (spec_l05Is.calls k gb249 a0_0 A0_1 c0_1 l0_1 true _ ?s1 ?s2 ?s3 A4.out).mono ?_); (case s1 => exact zq17 BK249); (case s2 => exact zq7 HR0_1); (case s3 => exact HC0_1.out); rintro e w7 ⟨rfl, hb⟩; refine ⟨_, rfl, ?_⟩; replace BK249 := mA (blkb hb BK249.out); replace HB := mA (below_step zq1 hb); (try clear hb)) | (go_at_call 18; (with_reducible refine (spec_l05Few.calls k gb249 a0_0 A0_1 c0_1 l0_1 t251 _ ?s1 ?s2 ?s3 A6.out).mono ?_); (case s1 => exact zq17 BK249); (case s2 => exact zq7 HR0_1); (case s3 => exact HC0_1.out); rintro e w8 ⟨rfl, hb⟩; replace BK249 := mA (blkb hb BK249.out); replace HB := mA (below_step zq1 hb); (try clear hb))); go_meet
   case rel => exact ⟨_, (!t251), zq4, H', ⟨by first | omega | exact Nat.le_refl _⟩, ⟨zq0 BK249⟩, ⟨zq1⟩⟩
  replace c5 := Bool.eq_false_iff.mpr c5; subst c5; rw [if_neg (show ¬ (false = true) by decide)] at H; have H' := mA H; clear H; go_wp2_with (first | (refine sqG 17 (some 11) Try.func17 #[.pointer (some ⟨gb249, 0, none⟩)] (h := ?_); (with_reducible refine (spec_l05Is.calls k gb249 a0_0 A0_1 c0_1 l0_1 false _ ?s1 ?s2 ?s3 A4.out).mono ?_); (case s1 => exact zq17 BK249); (case s2 => exact zq7 HR0_1); (case s3 => exact HC0_1.out); rintro e w9 ⟨rfl, hb⟩; refine ⟨_, rfl, ?_⟩; replace BK249 := mA (blkb hb BK249.out); replace HB := mA (below_step zq1 hb); (try clear hb))); go_meet
  case rel => exact ⟨_, (true), zq4, H', ⟨by first | omega | exact Nat.le_refl _⟩, ⟨zq0 BK249⟩, ⟨zq1⟩⟩
 case rest =>
  clear HC2; obtain ⟨kq, x16_1, rfl, HA, HJ1, BK249, HB⟩ := hcut
  cases kq with
  | zero => exact absurd HA.out (by simp [spec_NearestTable.j0])
  | succ kj1 =>
   have H := HA.out; clear HA; simp only [spec_NearestTable.j0] at H; by_cases c10 : x16_1 = true
   ·subst c10; rw [if_pos rfl] at H; simp only [Option.some.injEq, Prod.mk.injEq] at H; obtain ⟨rfl, rfl, rfl⟩ := H; go_wp2; go_ret3; exact ⟨_, zq6, zq72, zq1⟩
   replace c10 := Bool.eq_false_iff.mpr c10; subst c10; rw [if_neg (show ¬ (false = true) by decide)] at H; obtain ⟨⟨t252, t253⟩, A11, H⟩ := sqB H; dsimp only at H; obtain ⟨y258, hy258⟩ : ∃ y_ : List (List Int), y_ = (([] : List (List Int))) := ⟨_, rfl⟩
   replace H : (spec_NearestTable.l0 kj1 t252 y258 (-1) true a0_0 l0_1) = some (r1, r2, r3) := sqHY hy258 H
   have Ny258 := mA hy258; clear hy258; have H' := mA H; clear H; obtain ⟨hcz12_0, hfz12_0⟩ := sqW0 BK249; obtain ⟨hcz12_1, hfz12_1⟩ := sqW1 BK249
   go_wp2_with (first | (refine sqG 19 (some 22) Try.func19 #[.slice A0_1 l0_1.length c0_1, .int .i64 a0_0] (h := ?_); (with_reducible refine (spec_l05Bounds.calls kj1 _ _ l0_1 a0_0 t252 t253 _ ?s1 ?s2 A11.out).mono ?_); (case s1 => exact zq7 HR0_1); (case s2 => exact HC0_1.out); rintro e w13 ⟨v254, v256, rfl, ho0, ho1, hb⟩; refine ⟨_, rfl, ?_⟩; have HO255 := mA (Kd.S_lower ho0 (below_size zq1)); have HO257 := mA (Kd.S_lower ho1 (below_size zq1)); replace BK249 := mA (blkb hb BK249.out); replace HB := mA (below_step zq1 hb); (try clear hb ho0 ho1)) | ((with_reducible refine gate_dst (N := 25) rfl ?_); refine Kd.S_lit (Kd.slice 2 (Kd.int .i64)) _ 46 ?hg (N := 25) ?hd (xs := ([] : List (List Int))) (inner := []) (ok := fun _ => True) (okp := fun _ => True) ?hr ?hp (fun _ hk => hk) trivial (Below.refl _ _) (Nat.le_refl _) (by simp) ?_; (case hd => rfl); (case hg => rfl); (case hr => exact zq12); (case hp => exact (Reps.none _ _)); intro v259 w14 ho15 hb hg_ hnew_; clear hg_ hnew_; (first | rw [← Ny258.out] at ho15 | (simp only [Int.reduceToNat] at ho15; rw [← Ny258.out] at ho15)); obtain ⟨B_, hB_⟩ : ∃ b_ : Nat, b_ = w13.heap.size := ⟨_, rfl⟩; have HWB := mA (show w.heap.size ≤ B_ by rw [hB_]; exact below_size HB.out); have HOa := mA (Kd.S_below (Kd.S_mono (Kd.S_bound (Kd.S_types (zq5 HO255) BK249.out (by decide))) (fun k_ hk => (⟨hk.1.2, by rw [hB_]; exact hk.2.2.1⟩ : k_ ≠ gb249 ∧ k_ < B_))) hb); have HOb := mA (show Kd.S (Kd.slice 2 (Kd.int .i64)) 46 w14 B_ (fun _ => True) _ _ from by rw [hB_]; exact ho15); have HZ := mA (show B_ ≤ w14.heap.size by rw [hB_]; exact hb.size); clear hB_; have HO260 := mA (Kd.S_lower (Kd.S_new' (Kd.S_new' ho15 (Kd.S_lt (zq5 HO255))) (Kd.S_lt (zq5 HO257))) (below_size zq1)); replace HO255 := mA (Kd.S_elder' (zq5 HO255) (Kd.S_base ho15) hb); replace HO257 := mA (Kd.S_elder' (zq5 HO257) (Kd.S_base ho15) hb); replace BK249 := mA (blkb hb BK249.out); replace HB := mA (below_step zq1 hb); clear hb ho15))
   go_loopg [7, 8, 9] kj1 (fun kq v7 v8 v9 w' => ∃ (x5_2 : List (List Int)) (x7_2 : List (List Int)) (x8_2 : Int) (x9_2 : Bool), v8 = .int .i64 x8_2 ∧ v9 = .bool x9_2 ∧ Aside0 (spec_NearestTable.l0 kq x5_2 x7_2 x8_2 x9_2 a0_0 l0_1 = some (r1, r2, r3)) ∧ Aside0 (kq ≤ kj1) ∧ Aside0 (Kd.S (Kd.slice 2 (Kd.int .i64)) 46 w' w.heap.size (fun k_ => k_ ≠ gb249 ∧ k_ < B_) v254 x5_2) ∧ Aside0 (Kd.S (Kd.slice 2 (Kd.int .i64)) 46 w' B_ (fun _ => True) v7 x7_2) ∧ Aside0 (B_ ≤ w'.heap.size) ∧ Aside0 (w'.heap[gb249]? = some (.cells #[.int .i64 a0_0, (.slice A0_1 l0_1.length c0_1)] 28 (0, 0))) ∧ Aside0 (Below w.heap.size w w'))
   case atStart => exact ⟨(t252), (y258), ((-1)), (true), zq4, zq4, H', ⟨Nat.le_refl _⟩, ⟨by (with_reducible repeat (first | apply Kd.S_alloc | apply Kd.S_drewN | apply Kd.S_drew)); exact HOa.out⟩, ⟨by (with_reducible repeat (first | apply Kd.S_alloc | apply Kd.S_drewN | apply Kd.S_drew)); exact HOb.out⟩, HZ, ⟨zq0 BK249⟩, ⟨zq1⟩⟩
   case round =>
    clear H'; (try clear c10); (try clear hcz12_0); (try clear hcz12_1); (try clear hfz12_0); (try clear hfz12_1); obtain ⟨x5_2, x7_2, x8_2, x9_2, rfl, rfl, HA, HK2, HO_5, HO_7, HZ, BK249, HB⟩ := hrel
    cases gk with
    | zero => exact absurd HA.out (by simp [spec_NearestTable.l0])
    | succ k2 =>
     have H := HA.out; clear HA; simp only [spec_NearestTable.l0] at H; by_cases c16 : x9_2 = true
     ·subst c16; rw [if_pos rfl] at H; obtain ⟨t261, A17, H⟩ := sqB H; have HC18 := mA H; clear H; obtain ⟨Ao19, co19, eo19⟩ := Kd.S_slice HO_5.out; subst eo19
      go_upto_region 10 with (first | (refine sqG 25 (some 30) Try.func25 #[.pointer (some ⟨gb249, 0, none⟩), .slice Ao19 x5_2.length co19] (h := ?_); (with_reducible refine (spec_l05Error.calls k2 gb249 a0_0 A0_1 c0_1 l0_1 _ _ x5_2 t261 _ ?s1 ?s2 ?s3 ?s4 ?s5 A17.out).mono ?_); (case s1 => exact zq17 BK249); (case s2 => exact zq7 HR0_1); (case s3 => exact HC0_1.out); (case s4 => exact zq13 HO_5); (case s5 => exact zq14 HO_5); rintro e w20 ⟨rfl, hb⟩; refine ⟨_, rfl, ?_⟩; have nz_ := mA (Nat.le_trans HZ.out hb.size); have n0_ := mA (Kd.S_below (zq5 HO_5) hb); have n1_ := mA (Kd.S_below (zq5 HO_7) hb); have n2_ := mA (blkb hb BK249.out); have n3_ := mA (below_step zq1 hb); clear HO_5 HO_7 BK249 HB; have HO_5 := n0_; have HO_7 := n1_; have BK249 := n2_; have HB := n3_; clear HZ; have HZ := nz_; clear nz_ n0_ n1_ n2_ n3_; (try clear hb)))
      (try simp only [Act.put, List.setIfInBounds_toArray, List.set_cons_zero, List.set_cons_succ]); go_cut [41] (fun v41 wc => ∃ (kq : Nat) (x41_17 : Bool), v41 = .bool x41_17 ∧ Aside0 (spec_NearestTable.j2 kq x5_2 x7_2 x8_2 t261 x41_17 a0_0 l0_1 = some (r1, r2, r3)) ∧ Aside0 (kq ≤ k2) ∧ Aside0 (Kd.S (Kd.slice 2 (Kd.int .i64)) 46 wc w.heap.size (fun k_ => k_ ≠ gb249 ∧ k_ < B_) (.slice Ao19 x5_2.length co19) x5_2) ∧ Aside0 (Kd.S (Kd.slice 2 (Kd.int .i64)) 46 wc B_ (fun _ => True) u7 x7_2) ∧ Aside0 (B_ ≤ wc.heap.size) ∧ Aside0 (wc.heap[gb249]? = some (.cells #[.int .i64 a0_0, (.slice A0_1 l0_1.length c0_1)] 28 (0, 0))) ∧ Aside0 (Below w.heap.size w wc))
      case first =>
       have H := HC18.out; clear HC18; by_cases c21 : x8_2 < 0
       ·rw [if_pos c21] at H; have c21b0 := decide_eq_true c21; clear c21; (first | rw [c21b0] | (simp only [i64_w, i32_w]; rw [c21b0]) | skip); obtain ⟨t262, A22, H⟩ := sqB H; have H' := mA H; clear H; go_wp2_with (first | (go_at_call 21; (with_reducible refine (spec_l05Rounds.calls k2 gb249 a0_0 A0_1 c0_1 l0_1 _ _ x5_2 t262 _ ?s1 ?s2 ?s3 ?s4 ?s5 A22.out).mono ?_); (case s1 => exact zq17 BK249); (case s2 => exact zq7 HR0_1); (case s3 => exact HC0_1.out); (case s4 => exact zq13 HO_5); (case s5 => exact zq14 HO_5); rintro e w23 ⟨rfl, hb⟩; have nz_ := mA (Nat.le_trans HZ.out hb.size); have n0_ := mA (Kd.S_below (zq5 HO_5) hb); have n1_ := mA (Kd.S_below (zq5 HO_7) hb); have n2_ := mA (blkb hb BK249.out); have n3_ := mA (below_step zq1 hb); clear HO_5 HO_7 BK249 HB; have HO_5 := n0_; have HO_7 := n1_; have BK249 := n2_; have HB := n3_; clear HZ; have HZ := nz_; clear nz_ n0_ n1_ n2_ n3_; (try clear hb))); go_meet
        case rel => exact ⟨_, (t262), zq4, H', ⟨by have := HJ1.out; have := HK2.out; first | omega | exact Nat.le_refl _⟩, ⟨zq5 HO_5⟩, ⟨zq5 HO_7⟩, HZ, ⟨zq0 BK249⟩, ⟨zq1⟩⟩
       rw [if_neg c21] at H; have c21b0 := decide_eq_false c21; clear c21; (first | rw [c21b0] | (simp only [i64_w, i32_w]; rw [c21b0]) | skip); by_cases c24 : t261 < x8_2
       ·rw [if_pos c24] at H; replace c24 := decide_eq_true c24; obtain ⟨t263, A25, H⟩ := sqB H; have H' := mA H; clear H; go_wp2_with (first | (go_at_call 21; (with_reducible refine (spec_l05Rounds.calls k2 gb249 a0_0 A0_1 c0_1 l0_1 _ _ x5_2 t263 _ ?s1 ?s2 ?s3 ?s4 ?s5 A25.out).mono ?_); (case s1 => exact zq17 BK249); (case s2 => exact zq7 HR0_1); (case s3 => exact HC0_1.out); (case s4 => exact zq13 HO_5); (case s5 => exact zq14 HO_5); rintro e w26 ⟨rfl, hb⟩; have nz_ := mA (Nat.le_trans HZ.out hb.size); have n0_ := mA (Kd.S_below (zq5 HO_5) hb); have n1_ := mA (Kd.S_below (zq5 HO_7) hb); have n2_ := mA (blkb hb BK249.out); have n3_ := mA (below_step zq1 hb); clear HO_5 HO_7 BK249 HB; have HO_5 := n0_; have HO_7 := n1_; have BK249 := n2_; have HB := n3_; clear HZ; have HZ := nz_; clear nz_ n0_ n1_ n2_ n3_; (try clear hb))); go_meet
        case rel => exact ⟨_, (t263), zq4, H', ⟨by have := HJ1.out; have := HK2.out; first | omega | exact Nat.le_refl _⟩, ⟨zq5 HO_5⟩, ⟨zq5 HO_7⟩, HZ, ⟨zq0 BK249⟩, ⟨zq1⟩⟩
       rw [if_neg c24] at H; replace c24 := decide_eq_false c24; have H' := mA H; clear H; go_wp2; go_meet
       case rel => exact ⟨_, (false), zq4, H', ⟨by have := HJ1.out; have := HK2.out; first | omega | exact Nat.le_refl _⟩, ⟨zq5 HO_5⟩, ⟨zq5 HO_7⟩, HZ, ⟨zq0 BK249⟩, ⟨zq1⟩⟩
      case rest =>
       clear HC18; (try clear c10); (try clear c16); (try clear hcz12_0); (try clear hcz12_1); (try clear hfz12_0); (try clear hfz12_1); obtain ⟨kq, x41_17, rfl, HA, HJ17, HO_5, HO_7, HZ, BK249, HB⟩ := hcut
       cases kq with
       | zero => exact absurd HA.out (by simp [spec_NearestTable.j2])
       | succ kj17 =>
        have H := HA.out; clear HA; simp only [spec_NearestTable.j2] at H; refine sqC (x41_17 = true) (fun c27 => ?_) (fun c27 => ?_)
        ·replace c27 := Bool.eq_false_iff.mpr c27; subst c27; rw [if_neg (show ¬ (false = true) by decide)] at H; obtain ⟨⟨t280, t274⟩, A34, H⟩ := sqB H; dsimp only at H; have H' := mA H; clear H; go_wp2_with (first | (refine sqG 20 (some 28) Try.func20 #[.pointer (some ⟨gb249, 0, none⟩), .slice Ao19 x5_2.length co19] (h := ?_); (with_reducible refine (spec_l05Next.calls kj17 gb249 a0_0 A0_1 c0_1 l0_1 (fun k_ => k_ ≠ gb249 ∧ k_ < B_) (.slice Ao19 x5_2.length co19) x5_2 t280 t274 w _ ?s1 ?s2 ?s3 ?s4 ?s5 A34.out).mono ?_); (case s1 => exact zq1); (case s2 => exact zq0 BK249); (case s3 => exact HR0_1.out); (case s4 => exact HC0_1.out); (case s5 => exact zq5 HO_5); rintro e w37 ⟨rfl, ho0, hb, hkp⟩; refine ⟨_, rfl, ?_⟩; have n0_ := mA ho0; have n1_ := mA (blk_kept (zq0 BK249) hkp (fun hs_ => hs_.1 rfl)); have n2_ := mA hb; have n3_ := mA (Nat.le_trans HZ.out hkp.1); have n4_ := mA (Kd.S_mono (Kd.S_kept (Kd.S_bound (zq5 HO_7)) hkp (fun k_ hk q_ => absurd q_.2 (Nat.not_lt.mpr hk.2.1))) (fun _ h_ => h_.1)); clear HO_5 BK249 HB HZ HO_7; have HO_5 := n0_; have BK249 := n1_; have HB := n2_; have HZ := n3_; have HO_7 := n4_; clear n0_ n1_ n2_ n3_ n4_ hb hkp ho0)); go_roundg kj17
         case measure => have := HJ1.out; have := HK2.out; have := HJ17.out; omega
         case rel => exact ⟨(t274), (x7_2), (x8_2), (t280), zq4, zq4, H', ⟨zq30 HJ1 HK2 HJ17⟩, ⟨zq5 HO_5⟩, ⟨zq5 HO_7⟩, HZ, ⟨zq0 BK249⟩, ⟨zq1⟩⟩
        subst c27; rw [if_pos rfl] at H; obtain ⟨t264, A28, H⟩ := sqB H; obtain ⟨⟨t273, t267⟩, A29, H⟩ := sqB H; dsimp only at H; have H' := mA H; clear H; go_wp2_with (first | (refine sqG 26 (some 43) Try.func26 #[.slice Ao19 x5_2.length co19] (h := ?_); (with_reducible refine (spec_l05Copy.calls kj17 _ _ x5_2 t264 _ ?s1 ?s2 A28.out).mono ?_); (case s1 => exact zq13 HO_5); (case s2 => exact zq14 HO_5); rintro e w31 ⟨v265, rfl, ho0, hb⟩; refine ⟨_, rfl, ?_⟩; have n0_ := mA (Kd.S_below (zq5 HO_5) hb); have n1_ := mA (Kd.S_lower ho0 HZ.out); have n2_ := mA (blk_below (zq0 BK249) hb); have n3_ := mA (below_step zq1 hb); have n4_ := mA (Nat.le_trans HZ.out hb.size); clear HO_5 HO_7 BK249 HB HZ; have HO_5 := n0_; have HO266 := n1_; have BK249 := n2_; have HB := n3_; have HZ := n4_; clear n0_ n1_ n2_ n3_ n4_ hb ho0) | (refine sqG 20 (some 28) Try.func20 #[.pointer (some ⟨gb249, 0, none⟩), .slice Ao19 x5_2.length co19] (h := ?_); (with_reducible refine (spec_l05Next.calls kj17 gb249 a0_0 A0_1 c0_1 l0_1 (fun k_ => k_ ≠ gb249 ∧ k_ < B_) (.slice Ao19 x5_2.length co19) x5_2 t273 t267 w _ ?s1 ?s2 ?s3 ?s4 ?s5 A29.out).mono ?_); (case s1 => exact zq1); (case s2 => exact zq0 BK249); (case s3 => exact HR0_1.out); (case s4 => exact HC0_1.out); (case s5 => exact zq5 HO_5); rintro e w33 ⟨rfl, ho0, hb, hkp⟩; refine ⟨_, rfl, ?_⟩; have n0_ := mA ho0; have n1_ := mA (blk_kept (zq0 BK249) hkp (fun hs_ => hs_.1 rfl)); have n2_ := mA hb; have n3_ := mA (Nat.le_trans HZ.out hkp.1); have n4_ := mA (Kd.S_mono (Kd.S_kept (Kd.S_bound (zq5 HO266)) hkp (fun k_ hk q_ => absurd q_.2 (Nat.not_lt.mpr hk.2.1))) (fun _ h_ => h_.1)); clear HO_5 BK249 HB HZ HO266; have HO_5 := n0_; have BK249 := n1_; have HB := n2_; have HZ := n3_; have HO266 := n4_; clear n0_ n1_ n2_ n3_ n4_ hb hkp ho0)); go_roundg kj17
        case measure => have := HJ1.out; have := HK2.out; have := HJ17.out; omega
        case rel => exact ⟨(t267), (t264), (t261), (t273), zq4, zq4, H', ⟨zq30 HJ1 HK2 HJ17⟩, ⟨zq5 HO_5⟩, ⟨zq5 HO266⟩, HZ, ⟨zq0 BK249⟩, ⟨zq1⟩⟩
     replace c16 := Bool.eq_false_iff.mpr c16; subst c16; rw [if_neg (show ¬ (false = true) by decide)] at H; simp only [Option.some.injEq, Prod.mk.injEq] at H; obtain ⟨rfl, rfl, rfl⟩ := H; go_wp2; go_ret3; exact ⟨_, zq6, by (with_reducible repeat (first | apply Kd.S_alloc | apply Kd.S_drewN | apply Kd.S_drew)); exact Kd.S_lower HO_7.out HWB.out, zq1⟩

/-! ### impl_within: function 52 -/
def impl_within.f (a0 : Int) (a1 : Int) (a2 : Int) : Option (Bool) := if a1 ≤ a0 then (some (decide (a0 ≤ a2))) else (some false)
set_option maxHeartbeats 8000000 in
set_option maxRecDepth 100000 in
theorem impl_within.calls (a0 : Int) (a1 : Int) (a2 : Int) (r : Bool) (w : World) (h : impl_within.f a0 a1 a2 = some r) :
    Calls Try.prog 52 #[.int .i64 a0, .int .i64 a1, .int .i64 a2] w fun e w' => e = .returned (.bool r) ∧ Drawn0 w w' := by
 have H : (if a1 ≤ a0 then (some (decide (a0 ≤ a2))) else (some false)) = some r := h; clear h; by_cases c4 : a1 ≤ a0
 ·rw [if_pos c4] at H; have c4b0 : decide (a1 ≤ a0) = true := decide_eq_true c4; clear c4; obtain rfl := Option.some.inj H; go_enter Try.func52, Try.ntmps52; go_wp2; go_ret; exact ⟨zq4, zq10⟩
 rw [if_neg c4] at H; have c4b0 : decide (a1 ≤ a0) = false := decide_eq_false c4; clear c4; obtain rfl := Option.some.inj H; go_enter Try.func52, Try.ntmps52; go_wp2; go_ret; exact ⟨zq4, zq10⟩

/-! ### impl_size_int64_53: function 53 -/
def impl_size_int64_53.f (l0 : List (List Int)) : Option (Int) := some (l0.length : Int)
set_option maxHeartbeats 8000000 in
set_option maxRecDepth 100000 in
theorem impl_size_int64_53.calls (A0 : Option Addr) (c0 : Nat) (l0 : List (List Int)) (r : Int) (w : World) (hr0 : Kd.C (Kd.slice 2 (Kd.int .i64)) w A0 l0.length l0) (hc0 : l0.length ≤ c0) (h : impl_size_int64_53.f l0 = some r) :
    Calls Try.prog 53 #[.slice A0 l0.length c0] w fun e w' => e = .returned (.int .i64 r) ∧ Drawn0 w w' := by
 have HR0 := mA hr0; have HC0 := mA hc0; clear hr0 hc0; have H : (some (l0.length : Int)) = some r := h; clear h; obtain rfl := Option.some.inj H; go_enter Try.func53, Try.ntmps53; go_wp2; go_ret; exact ⟨zq4, zq10⟩

/-! ### impl_size_int64_54: function 54 -/
def impl_size_int64_54.f (l0 : List Int) : Option (Int) := some (l0.length : Int)
set_option maxHeartbeats 8000000 in
set_option maxRecDepth 100000 in
theorem impl_size_int64_54.calls (A0 : Option Addr) (c0 : Nat) (l0 : List Int) (r : Int) (w : World) (hr0 : Kd.C (Kd.int .i64) w A0 l0.length l0) (hc0 : l0.length ≤ c0) (h : impl_size_int64_54.f l0 = some r) :
    Calls Try.prog 54 #[.slice A0 l0.length c0] w fun e w' => e = .returned (.int .i64 r) ∧ Drawn0 w w' := by
 have HR0 := mA hr0; have HC0 := mA hc0; clear hr0 hc0; have H : (some (l0.length : Int)) = some r := h; clear h; obtain rfl := Option.some.inj H; go_enter Try.func54, Try.ntmps54; go_wp2; go_ret; exact ⟨zq4, zq10⟩

-- told with its function values: function 64 (slices_IndexFunc_int64_int64_64)

-- told with its function values: function 55 (slices_ContainsFunc_int64_int64_55)

-- told with its function values: function 69 (slices_IndexFunc_int64_int64_69)

-- told with its function values: function 65 (slices_ContainsFunc_int64_int64_65)

-- told with its function values: function 66 (impl_areWithin_1)

end Go.Proofs.Ytdcglkdgepdnpaa.PFnExactNearestTable
