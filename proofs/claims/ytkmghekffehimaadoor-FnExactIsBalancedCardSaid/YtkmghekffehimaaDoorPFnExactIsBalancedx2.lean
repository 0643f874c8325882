/- Written by this session's program (wip/tool/xprint.py) over the kit's printer. -/
import Derived.Test.YtkmghekffehimaaDoorPFnExactIsBalancedx0
import Derived.Test.YtkmghekffehimaaDoorPFnExactIsBalancedx1
namespace Go.Proofs.YtkmghekffehimaaDoor.PFnExactIsBalanced
open Go.RowKit Go.Proofs.YtkmghekffehimaaDoorW.PrintWords Go.Proofs.YtkmghekffehimaaDoorW.PrintLast Go.Proofs.YtkmghekffehimaaDoorW.PrintMore
attribute [local go_sem] max2_int min2_int max_two min_two max_three min_three max_four min_four   -- for this text's walks alone
set_option linter.unusedVariables false
set_option linter.unusedSimpArgs false

/-! ### spec_l07Balanced: function 37 -/
mutual
def spec_l07Balanced.l0 : Nat → List Int → Int → Option (Bool)
  | 0, _, _ => none
  | k + 1, x3, x4 => if x4 < (x3.length : Int) then (if 0 ≤ x4 then (spec_l07Balanced.l1 k x3 x4 (rd x3 x4) (rd x3 x4) 0) else (none)) else (some true)
def spec_l07Balanced.l1 : Nat → List Int → Int → Int → Int → Int → Option (Bool)
  | 0, _, _, _, _, _ => none
  | k + 1, x3, x4, x5, x6, x7 => if (wrap64 (x7 + x4)) < (x3.length : Int) then (if 0 ≤ (wrap64 (x7 + x4)) then (if 0 ≤ x7 then (if x7 < (x3.length : Int) then ((spec_l00Min.f x5 (wrap64 ((rd x3 (wrap64 (x7 + x4))) - (rd x3 x7)))).bind fun t115 => ((spec_l00Max.f x6 (wrap64 ((rd x3 (wrap64 (x7 + x4))) - (rd x3 x7)))).bind fun t118 => (spec_l07Balanced.l1 k x3 x4 t115 t118 (wrap64 (x7 + 1))))) else (none)) else (none)) else (none)) else (if x6 > (wrap64 (x5 + 1)) then (some false) else (spec_l07Balanced.l0 k x3 (wrap64 (x4 + 1))))
end
def spec_l07Balanced.f (k : Nat) (a0 : ByteArray) : Option (Bool) := (spec_l07Heights.f k a0).bind fun t108 => (spec_l07Balanced.l0 k t108 1)
theorem spec_l07Balanced.mono_l : ∀ k, (∀ y0 y1, LeO (spec_l07Balanced.l0 k y0 y1) (spec_l07Balanced.l0 (k + 1) y0 y1)) ∧ (∀ y0 y1 y2 y3 y4, LeO (spec_l07Balanced.l1 k y0 y1 y2 y3 y4) (spec_l07Balanced.l1 (k + 1) y0 y1 y2 y3 y4))
  | 0 => ⟨fun _ _ r h => by simp [spec_l07Balanced.l0] at h, fun _ _ _ _ _ r h => by simp [spec_l07Balanced.l1] at h⟩
  | k + 1 => by
   obtain ⟨ih0, ih1⟩ := spec_l07Balanced.mono_l k
   refine ⟨?_, ?_⟩ <;> intros
   all_goals first | unfold spec_l07Balanced.l0 | unfold spec_l07Balanced.l1
   all_goals repeat' first | (with_reducible first | apply ih0 | apply ih1 | apply spec_l07Heights.mono | exact LeO.refl _ | exact LeO.none _ | refine LeO.ite ?_ ?_ | refine LeO.bind ?_ (fun _ => ?_)) | apply ih0 | apply ih1 | apply spec_l07Heights.mono | exact LeO.none _ | refine LeO.ite ?_ ?_ | refine LeO.bind ?_ (fun _ => ?_)
theorem spec_l07Balanced.mono : ∀ a0 k, LeO (spec_l07Balanced.f k a0) (spec_l07Balanced.f (k + 1) a0) := by
  intro a0 k
  obtain ⟨ih0, ih1⟩ := spec_l07Balanced.mono_l k
  unfold spec_l07Balanced.f
  repeat' first | (with_reducible first | apply ih0 | apply ih1 | apply spec_l07Heights.mono | exact LeO.refl _ | exact LeO.none _ | refine LeO.ite ?_ ?_ | refine LeO.bind ?_ (fun _ => ?_)) | apply ih0 | apply ih1 | apply spec_l07Heights.mono | exact LeO.none _ | refine LeO.ite ?_ ?_ | refine LeO.bind ?_ (fun _ => ?_)
def spec_l07Balanced.T10 : Bool × List (List Nat × List Nat) := (true, [([], []), ([], []), ([], []), ([], []), ([2, 3], [2, 3]), ([1, 4], [1, 4]), ([5], [5]), ([], []), ([], []), ([7, 8], [7, 8]), ([9], [9]), ([6, 10], [6, 10]), ([0, 11], [0, 11]), ([12, 12, 0, 1, 2, 3, 4, 5, 6, 7, 8, 9, 10, 11, 12], [0, 12])])
def spec_l07Balanced.B10 : List Nat := [0, 0, 0, 0, 12, 30, 62, 0, 0, 384, 896, 2046, 4095, 8191]
theorem spec_l07Balanced.tab10 : rtab .any (opsOf Tryd.f37 10) = spec_l07Balanced.T10 := by kernel_rfl
theorem spec_l07Balanced.bits10 : waitsOk spec_l07Balanced.T10.2 spec_l07Balanced.B10 = true := by kernel_rfl
def spec_l07Balanced.T11 : Bool × List (List Nat × List Nat) := (true, [([], []), ([], []), ([], []), ([], []), ([2, 3], [2, 3]), ([1, 4], [1, 4]), ([5], [5]), ([], []), ([], []), ([7, 8], [7, 8]), ([9], [9]), ([6, 10], [6, 10]), ([0, 11], [0, 11]), ([12, 12, 0, 1, 2, 3, 4, 5, 6, 7, 8, 9, 10, 11, 12], [0, 12])])
def spec_l07Balanced.B11 : List Nat := [0, 0, 0, 0, 12, 30, 62, 0, 0, 384, 896, 2046, 4095, 8191]
theorem spec_l07Balanced.tab11 : rtab .any (opsOf Tryd.f37 11) = spec_l07Balanced.T11 := by kernel_rfl
theorem spec_l07Balanced.bits11 : waitsOk spec_l07Balanced.T11.2 spec_l07Balanced.B11 = true := by kernel_rfl
set_option maxHeartbeats 8000000 in
set_option maxRecDepth 100000 in
theorem spec_l07Balanced.calls (k : Nat) (a0 : ByteArray) (r : Bool) (w : World) (h : spec_l07Balanced.f k a0 = some r) :
    Calls Tryd.prog 37 #[.string a0] w fun e w' => e = .returned (.bool r) ∧ Below w.heap.size w w' := by
 have HB := mA (Below.refl w.heap.size w); have H : ((spec_l07Heights.f k a0).bind fun t108 => (spec_l07Balanced.l0 k t108 1)) = some r := h; clear h; obtain ⟨t108, A2, H⟩ := sqB H; have H' := mA H; clear H; go_enter Tryd.func37, Tryd.ntmps37; go_wp2_with (first | (refine sqG 35 (some 9) Tryd.func35 #[.string a0] (h := ?_); (with_reducible refine (spec_l07Heights.calls k a0 t108 _ A2.out).mono ?_); rintro e w3 ⟨v109, rfl, ho0, hb⟩; refine ⟨_, rfl, ?_⟩; have HO110 := mA (Kd.R_lower ho0 (below_size z0)); replace HB := mA (below_step z0 hb); (try clear hb ho0))); go_loopg [4] k (fun kq v4 w' => ∃ (x4_1 : Int), v4 = .int .i64 x4_1 ∧ Aside0 (spec_l07Balanced.l0 kq t108 x4_1 = some r) ∧ Aside0 (kq ≤ k) ∧ Aside0 (Kd.R (Kd.int .i64) 2 w' w.heap.size (fun _ => True) v109 t108) ∧ Aside0 (Below w.heap.size w w'))
 case atStart => exact ⟨(1), z1, H', ⟨Nat.le_refl _⟩, ⟨z3 HO110⟩, ⟨z0⟩⟩
 case round =>
  clear H'; (try clear p2); (try clear c3); obtain ⟨x4_1, rfl, HA, HK1, HO_3, HB⟩ := hrel
  cases gk with
  | zero => exact absurd HA.out (by simp [spec_l07Balanced.l0])
  | succ k1 =>
   have H := HA.out; clear HA; simp only [spec_l07Balanced.l0] at H; refine sqC (x4_1 < (t108.length : Int)) (fun c4 => ?_) (fun c4 => ?_)
   ·rw [if_neg c4] at H; replace c4 := decide_eq_false c4; obtain rfl := Option.some.inj H; obtain ⟨Ao17, co17, eo17⟩ := Kd.R_slice HO_3.out; subst eo17; go_wp2; go_ret; exact ⟨z4, z0⟩
   rw [if_pos c4] at H; replace c4 := decide_eq_true c4; obtain ⟨c5, H⟩ := sqI H; replace c5 := decide_eq_true c5; have H' := mA H; clear H; obtain ⟨Ao6, co6, eo6⟩ := Kd.R_slice HO_3.out; subst eo6; have p111 : 0 ≤ (x4_1 : Int) := sqd; have q111 : x4_1 < (t108.length : Int) := sqd; obtain ⟨ad111, e111, hx111_0⟩ := Kd.at_int (Kd.R_reads' HO_3.out).2.2 x4_1 p111 q111
   cases e111
   replace p111 := eq_true p111; replace q111 := eq_true q111; have p112 : 0 ≤ (x4_1 : Int) := sqd; have q112 : x4_1 < (t108.length : Int) := sqd; obtain ⟨ad112, e112, hx112_0⟩ := Kd.at_int (Kd.R_reads' HO_3.out).2.2 x4_1 p112 q112; obtain rfl : ad111 = ad112 := (by injection e112); replace p112 := eq_true p112; replace q112 := eq_true q112; go_wp2; go_loopg [5, 6, 7] k1 (fun kq v5 v6 v7 w' => ∃ (x5_2 : Int) (x6_2 : Int) (x7_2 : Int), v5 = .int .i64 x5_2 ∧ v6 = .int .i64 x6_2 ∧ v7 = .int .i64 x7_2 ∧ Aside0 (spec_l07Balanced.l1 kq t108 x4_1 x5_2 x6_2 x7_2 = some r) ∧ Aside0 (kq ≤ k1) ∧ Aside0 (Kd.R (Kd.int .i64) 2 w' w.heap.size (fun _ => True) (.slice (some ad111) t108.length co6) t108) ∧ Aside0 (Below w.heap.size w w'))
   case atStart => exact ⟨(rd t108 x4_1), (rd t108 x4_1), (0), z1, z1, z1, H', ⟨Nat.le_refl _⟩, ⟨z3 HO_3⟩, ⟨z0⟩⟩
   case round =>
    clear H'; (try clear p1); (try clear q1); (try clear hx1); (try clear p2); (try clear c3); (try clear c4); (try clear c4b0); (try clear c5); (try clear c5b0); (try clear hx111_0); (try clear hx112_0); (try clear p111); (try clear p112); (try clear p2); (try clear q111); (try clear q112); obtain ⟨x5_2, x6_2, x7_2, rfl, rfl, rfl, HA, HK2, HO_3, HB⟩ := hrel
    cases gk with
    | zero => exact absurd HA.out (by simp [spec_l07Balanced.l1])
    | succ k2 =>
     have H := HA.out; clear HA; simp only [spec_l07Balanced.l1] at H; refine sqC ((wrap64 (x7_2 + x4_1)) < (t108.length : Int)) (fun c7 => ?_) (fun c7 => ?_)
     ·rw [if_neg c7] at H; have c7b0 := decide_eq_false c7; clear c7; by_cases c16 : x6_2 > (wrap64 (x5_2 + 1))
      ·rw [if_pos c16] at H; replace c16 := decide_eq_true c16; obtain rfl := Option.some.inj H; go_wp2; go_ret; exact ⟨z4, z0⟩
      rw [if_neg c16] at H; replace c16 := decide_eq_false c16; have H' := mA H; clear H; go_wp2; go_roundg k2
      case measure => have := HK1.out; have := HK2.out; omega
      case rel => exact ⟨(wrap64 (x4_1 + 1)), z1, H', ⟨by have := HK1.out; have := HK2.out; omega⟩, ⟨z3 HO_3⟩, ⟨z0⟩⟩
     rw [if_pos c7] at H; have c7b0 := decide_eq_true c7; clear c7; obtain ⟨ji8, hji8⟩ : ∃ j_ : Int, (wrap64 (x7_2 + x4_1)) = j_ := ⟨_, rfl⟩
     replace H : (if 0 ≤ (ji8) then (if 0 ≤ x7_2 then (if x7_2 < (t108.length : Int) then ((spec_l00Min.f x5_2 (wrap64 ((rd t108 (ji8)) - (rd t108 x7_2)))).bind fun t115 => ((spec_l00Max.f x6_2 (wrap64 ((rd t108 (ji8)) - (rd t108 x7_2)))).bind fun t118 => (spec_l07Balanced.l1 k2 t108 x4_1 t115 t118 (wrap64 (x7_2 + 1))))) else (none)) else (none)) else (none)) = some r := by first | (rw [hji8] at H; exact H) | (simp only [hji8] at H ⊢; exact H)
     (try rw [hji8] at c7b0); have hji8w : (IntKind.i64.wrap (x7_2 + x4_1)) = ji8 := (i64_w _).trans hji8; obtain ⟨c9, H⟩ := sqI H; replace c9 := decide_eq_true c9; obtain ⟨c10, H⟩ := sqI H; replace c10 := decide_eq_true c10; obtain ⟨c11, H⟩ := sqI H; replace c11 := decide_eq_true c11; obtain ⟨t115, A12, H⟩ := sqB H; obtain ⟨t118, A13, H⟩ := sqB H; have H' := mA H; clear H; (try go_wp2); replace HO_3 := mA (Kd.R_drew HO_3.out); replace HB := mA (below_drew1 HB.out); have p113 : 0 ≤ ((ji8) : Int) := sqd; have q113 : (ji8) < (t108.length : Int) := sqd; obtain ⟨ad113, e113, hx113_0⟩ := Kd.at_int (Kd.R_reads' HO_3.out).2.2 (ji8) p113 q113; obtain rfl : ad111 = ad113 := (by injection e113); replace p113 := eq_true p113; replace q113 := eq_true q113; have p114 : 0 ≤ (x7_2 : Int) := sqd; have q114 : x7_2 < (t108.length : Int) := sqd; obtain ⟨ad114, e114, hx114_0⟩ := Kd.at_int (Kd.R_reads' HO_3.out).2.2 x7_2 p114 q114; obtain rfl : ad111 = ad114 := (by injection e114); replace p114 := eq_true p114; replace q114 := eq_true q114; refine start_ (n := 14) (S := fun w' => w'.cell? (ad111.add ((ji8)).toNat) = some (.int .i64 (rd t108 (ji8))) ∧ w'.cell? (ad111.add (x7_2).toNat) = some (.int .i64 (rd t108 x7_2))) (ds := []) #[false, false, false, false, false, false, false, false, false, false, false, false, false, false] (by kernel_rfl) rfl rfl ⟨hx113_0, hx114_0⟩ (fun hHeld => ?_); refine with_tabW spec_l07Balanced.tab10 spec_l07Balanced.bits10 (fun HT_ HW_ => ?_); generalize wr.drew = w14 at HO_3 HB hx113_0 hx114_0 hHeld ⊢; refine sqr3 0 (some 32) ?_; refine sqr3 1 (some 33) ?_; refine sqr3 2 (some 34) ?_; refine sqr3 3 (some 35) ?_; refine sqr3 4 (some 36) ?_; refine sqr3 5 (some 37) ?_; refine sqr3 7 (some 39) ?_; refine sqr3 8 (some 40) ?_; refine sqr3 9 (some 41) ?_; refine sqr4 6 (some 38) ?_; refine sqr4 10 (some 42) ?_; refine sqr3 11 (some 43) ?_; refine sqr5 12 (some 44) (fun K hK => ?_); refine goes_ Tryd.func44 (by kernel_rfl) rfl #[.int .i64 x5_2, .int .i64 (wrap64 ((rd t108 (ji8)) - (rd t108 x7_2)))] (by rfl) rfl rfl (by (try simp only [List.map_toArray, List.map_cons, List.map_nil]); first | done | (simp only [hji8]; rfl) | rfl | (simp only [List.length_drop, List.length_take]; rfl)) ?_; (with_reducible refine (spec_l00Min.calls x5_2 (wrap64 ((rd t108 (ji8)) - (rd t108 x7_2))) t115 _ A12.out).mono ?_); rintro e w' ⟨rfl, ⟨nd, rfl⟩⟩; refine ⟨_, rfl, ?_⟩; refine hK.out _ _ ⟨hHeld.1, hHeld.2⟩ (fun hHeld => ?_); clear hK K; refine sqr6 ?_; refine sqr3 13 (some 5) ?_; refine done_ (done_of HT_.out (by kernel_rfl)) ?_; (try go_wp2); (try (rw [drewN_self w14]; generalize hq_ : World.drewN w14 _ = w14; have n0_ : Aside0 (Kd.R (Kd.int .i64) 2 w14 w.heap.size (fun _ => True) (.slice (some ad111) t108.length co6) t108) := ⟨by rw [← hq_]; exact (z3 HO_3)⟩; have n1_ : Aside0 (Below w.heap.size w w14) := ⟨by rw [← hq_]; exact z0⟩; clear HO_3 HB hq_; have HO_3 := n0_; have HB := n1_; clear n0_ n1_)); replace HO_3 := mA (Kd.R_drew HO_3.out); replace HB := mA (below_drew1 HB.out); have p116 : 0 ≤ ((ji8) : Int) := sqd; have q116 : (ji8) < (t108.length : Int) := sqd; obtain ⟨ad116, e116, hx116_0⟩ := Kd.at_int (Kd.R_reads' HO_3.out).2.2 (ji8) p116 q116; obtain rfl : ad111 = ad116 := (by injection e116); replace p116 := eq_true p116; replace q116 := eq_true q116
     have p117 : 0 ≤ (x7_2 : Int) := sqd; have q117 : x7_2 < (t108.length : Int) := sqd; obtain ⟨ad117, e117, hx117_0⟩ := Kd.at_int (Kd.R_reads' HO_3.out).2.2 x7_2 p117 q117; obtain rfl : ad111 = ad117 := (by injection e117); replace p117 := eq_true p117; replace q117 := eq_true q117; refine start_ (n := 14) (S := fun w' => w'.cell? (ad111.add ((ji8)).toNat) = some (.int .i64 (rd t108 (ji8))) ∧ w'.cell? (ad111.add (x7_2).toNat) = some (.int .i64 (rd t108 x7_2))) (ds := []) #[false, false, false, false, false, false, false, false, false, false, false, false, false, false] (by kernel_rfl) rfl rfl ⟨hx116_0, hx117_0⟩ (fun hHeld => ?_); refine with_tabW spec_l07Balanced.tab11 spec_l07Balanced.bits11 (fun HT_ HW_ => ?_); generalize w14.drew = w15 at HO_3 HB hx116_0 hx117_0 hHeld ⊢; refine sqr3 0 (some 45) ?_; refine sqr3 1 (some 46) ?_; refine sqr3 2 (some 47) ?_; refine sqr3 3 (some 48) ?_; refine sqr3 4 (some 49) ?_; refine sqr3 5 (some 50) ?_; refine sqr3 7 (some 52) ?_; refine sqr3 8 (some 53) ?_; refine sqr3 9 (some 54) ?_; refine sqr4 6 (some 51) ?_; refine sqr4 10 (some 55) ?_; refine sqr3 11 (some 56) ?_; refine sqr5 12 (some 57) (fun K hK => ?_); refine goes_ Tryd.func40 (by kernel_rfl) rfl #[.int .i64 x6_2, .int .i64 (wrap64 ((rd t108 (ji8)) - (rd t108 x7_2)))] (by rfl) rfl rfl (by (try simp only [List.map_toArray, List.map_cons, List.map_nil]); first | done | (simp only [hji8]; rfl) | rfl | (simp only [List.length_drop, List.length_take]; rfl)) ?_; (with_reducible refine (spec_l00Max.calls x6_2 (wrap64 ((rd t108 (ji8)) - (rd t108 x7_2))) t118 _ A13.out).mono ?_); rintro e w' ⟨rfl, ⟨nd, rfl⟩⟩; refine ⟨_, rfl, ?_⟩; refine hK.out _ _ ⟨hHeld.1, hHeld.2⟩ (fun hHeld => ?_); clear hK K; refine sqr6 ?_; refine sqr3 13 (some 6) ?_; refine done_ (done_of HT_.out (by kernel_rfl)) ?_; (try go_wp2); go_roundg k2
     case measure => have := HK1.out; have := HK2.out; omega
     case rel => exact ⟨(t115), (t118), (wrap64 (x7_2 + 1)), z1, z1, z1, H', ⟨by have := HK1.out; have := HK2.out; omega⟩, ⟨z3 HO_3⟩, ⟨z0⟩⟩

/-! ### spec_IsBalanced: function 20 -/
def spec_IsBalanced.f (k : Nat) (a0 : ByteArray) : Option (Bool) := (spec_l07Is.f k a0).bind fun t119 => (if t119 = true then ((spec_l07Balanced.f k a0).bind fun t120 => (some t120)) else (some false))
theorem spec_IsBalanced.mono : ∀ a0 k, LeO (spec_IsBalanced.f k a0) (spec_IsBalanced.f (k + 1) a0) := by
  intro a0 k
  unfold spec_IsBalanced.f
  repeat' first | (with_reducible first | apply spec_l07Balanced.mono | apply spec_l07Is.mono | exact LeO.refl _ | exact LeO.none _ | refine LeO.ite ?_ ?_ | refine LeO.bind ?_ (fun _ => ?_)) | apply spec_l07Balanced.mono | apply spec_l07Is.mono | exact LeO.none _ | refine LeO.ite ?_ ?_ | refine LeO.bind ?_ (fun _ => ?_)
set_option maxHeartbeats 8000000 in
set_option maxRecDepth 100000 in
theorem spec_IsBalanced.calls (k : Nat) (a0 : ByteArray) (r : Bool) (w : World) (h : spec_IsBalanced.f k a0 = some r) :
    Calls Tryd.prog 20 #[.string a0] w fun e w' => e = .returned (.bool r) ∧ Below w.heap.size w w' := by
 have HB := mA (Below.refl w.heap.size w); have H : ((spec_l07Is.f k a0).bind fun t119 => (if t119 = true then ((spec_l07Balanced.f k a0).bind fun t120 => (some t120)) else (some false))) = some r := h; clear h; obtain ⟨t119, A2, H⟩ := sqB H; refine sqC (t119 = true) (fun c3 => ?_) (fun c3 => ?_)
 ·replace c3 := Bool.eq_false_iff.mpr c3; subst c3; rw [if_neg (show ¬ (false = true) by decide)] at H; obtain rfl := Option.some.inj H; go_enter Tryd.func20, Tryd.ntmps20; go_wp2_with (first | (refine sqG 32 (some 4) Tryd.func32 #[.string a0] (h := ?_); (with_reducible refine (spec_l07Is.calls k a0 false _ A2.out).mono ?_); rintro e w' ⟨rfl, ⟨nd, rfl⟩⟩; refine ⟨_, rfl, ?_⟩)); go_ret; exact ⟨z4, z0⟩
 subst c3; rw [if_pos rfl] at H; obtain ⟨t120, A4, H⟩ := sqB H; obtain rfl := Option.some.inj H; go_enter Tryd.func20, Tryd.ntmps20; go_wp2_with (first | (refine sqG 32 (some 4) Tryd.func32 #[.string a0] (h := ?_); (with_reducible refine (spec_l07Is.calls k a0 true _ A2.out).mono ?_); rintro e w' ⟨rfl, ⟨nd, rfl⟩⟩; refine ⟨_, rfl, ?_⟩) | (go_at_call 37; (with_reducible refine (spec_l07Balanced.calls k a0 t120 _ A4.out).mono ?_); rintro e w5 ⟨rfl, hb⟩; replace HB := mA (below_step z0 hb); (try clear hb))); go_ret; exact ⟨z4, z0⟩

/-! ### strings_trimLeftByte: function 53 -/
def strings_trimLeftByte.l0 : Nat → ByteArray → Int → Option (ByteArray)
  | 0, _, _ => none
  | k + 1, x0, x1 => if (x0.size : Int) > 0 then (if 0 < (x0.size : Int) then (if (bt x0 0) = x1 then (if 1 ≤ (x0.size : Int) then (strings_trimLeftByte.l0 k (x0.extract 1 x0.size) x1) else (none)) else (some x0)) else (none)) else (some x0)
def strings_trimLeftByte.f (k : Nat) (a0 : ByteArray) (a1 : Int) : Option (ByteArray) := strings_trimLeftByte.l0 k a0 a1
theorem strings_trimLeftByte.mono_l : ∀ k, (∀ y0 y1, LeO (strings_trimLeftByte.l0 k y0 y1) (strings_trimLeftByte.l0 (k + 1) y0 y1))
  | 0 => fun _ _ r h => by simp [strings_trimLeftByte.l0] at h
  | k + 1 => by
   have ih0 := strings_trimLeftByte.mono_l k
   intros
   unfold strings_trimLeftByte.l0
   all_goals repeat' first | (with_reducible first | apply ih0 | exact LeO.refl _ | exact LeO.none _ | refine LeO.ite ?_ ?_ | refine LeO.bind ?_ (fun _ => ?_)) | apply ih0 | exact LeO.none _ | refine LeO.ite ?_ ?_ | refine LeO.bind ?_ (fun _ => ?_)
theorem strings_trimLeftByte.mono : ∀ a0 a1 k, LeO (strings_trimLeftByte.f k a0 a1) (strings_trimLeftByte.f (k + 1) a0 a1) := by
  intro a0 a1 k
  have ih0 := strings_trimLeftByte.mono_l k
  unfold strings_trimLeftByte.f
  repeat' first | (with_reducible first | apply ih0 | exact LeO.refl _ | exact LeO.none _ | refine LeO.ite ?_ ?_ | refine LeO.bind ?_ (fun _ => ?_)) | apply ih0 | exact LeO.none _ | refine LeO.ite ?_ ?_ | refine LeO.bind ?_ (fun _ => ?_)
set_option maxHeartbeats 8000000 in
set_option maxRecDepth 100000 in
theorem strings_trimLeftByte.calls (k : Nat) (a0 : ByteArray) (a1 : Int) (r : ByteArray) (w : World) (h : strings_trimLeftByte.f k a0 a1 = some r) :
    Calls Tryd.prog 53 #[.string a0, .int .u8 a1] w fun e w' => e = .returned (.string r) ∧ Drawn0 w w' := by
 have H : (strings_trimLeftByte.l0 k a0 a1) = some r := h; clear h; have H' := mA H; clear H; go_enter Tryd.func53, Tryd.ntmps53; go_wp2; go_loopg [0] k (fun kq v0 w' => ∃ (x0_1 : ByteArray), v0 = .string x0_1 ∧ Aside0 (strings_trimLeftByte.l0 kq x0_1 a1 = some r) ∧ Aside0 (kq ≤ k) ∧ Drawn0 w w')
 case atStart => exact ⟨(a0), z1, H', ⟨Nat.le_refl _⟩, z2⟩
 case round =>
  clear H'; (try clear p2); obtain ⟨x0_1, rfl, HA, HK1, ⟨m1, rfl⟩⟩ := hrel
  cases gk with
  | zero => exact absurd HA.out (by simp [strings_trimLeftByte.l0])
  | succ k1 =>
   have H := HA.out; clear HA; simp only [strings_trimLeftByte.l0] at H; refine sqC ((x0_1.size : Int) > 0) (fun c3 => ?_) (fun c3 => ?_)
   ·rw [if_neg c3] at H; have c3b0 := decide_eq_false c3; have c3b1 : decide (0 < x0_1.size) = false := decide_eq_false (by omega); clear c3; obtain rfl := Option.some.inj H; go_wp2; go_ret; exact ⟨z1, z2⟩
   rw [if_pos c3] at H; have c3b0 := decide_eq_true c3; have c3b1 : decide (0 < x0_1.size) = true := decide_eq_true (by omega); clear c3; obtain ⟨c4, H⟩ := sqI H; have c4b0 := decide_eq_true c4; have c4b1 : decide (0 < x0_1.size) = true := decide_eq_true (by omega); clear c4; refine sqC ((bt x0_1 0) = a1) (fun c6 => ?_) (fun c6 => ?_)
   ·rw [if_neg c6] at H; have c6b0 : ((bt x0_1 0) == a1) = false := beq_eq_false_iff_ne.mpr c6; have c6b1 : ((bt x0_1 0) != a1) = true := bne_iff_ne.mpr c6; obtain rfl := Option.some.inj H; have p5 : 0 ≤ (0 : Int) := (by omega); have q5 : 0 < x0_1.size := (by have : (0 : Int) < (x0_1.size : Int) := sqd; omega); have hx5 : ∀ h : 0 < x0_1.size, ((x0_1[0]'h).toNat : Int) = bt x0_1 0 := bt_at x0_1 0; clear p5; have qi5 : (0 < (x0_1.size : Int)) = True := eq_true (sqd); replace q5 := eq_true q5; go_wp2; go_ret; exact ⟨z1, z2⟩
   rw [if_pos c6] at H; have c6b0 : ((bt x0_1 0) == a1) = true := beq_iff_eq.mpr c6; have c6b1 : ((bt x0_1 0) != a1) = false := bne_eq_false_iff_eq.mpr c6; clear c6; obtain ⟨c7, H⟩ := sqI H; have c7b0 := eq_true c7; have c7b1 := decide_eq_true c7; clear c7; have H' := mA H; clear H; have p5 : 0 ≤ (0 : Int) := (by omega); have q5 : 0 < x0_1.size := (by have : (0 : Int) < (x0_1.size : Int) := sqd; omega); have hx5 : ∀ h : 0 < x0_1.size, ((x0_1[0]'h).toNat : Int) = bt x0_1 0 := bt_at x0_1 0; clear p5; have qi5 : (0 < (x0_1.size : Int)) = True := eq_true (sqd); replace q5 := eq_true q5; go_wp2; go_roundg k1
   case measure => have := HK1.out; omega
   case rel => exact ⟨(x0_1.extract 1 x0_1.size), z1, H', ⟨by have := HK1.out; omega⟩, z2⟩

/-! ### strings_trimRightByte: function 54 -/
def strings_trimRightByte.l0 : Nat → ByteArray → Int → Option (ByteArray)
  | 0, _, _ => none
  | k + 1, x0, x1 => if (x0.size : Int) > 0 then (if 0 ≤ (wrap64 ((x0.size : Int) - 1)) then (if (wrap64 ((x0.size : Int) - 1)) < (x0.size : Int) then (if (bt x0 (wrap64 ((x0.size : Int) - 1))) = x1 then (if (wrap64 ((x0.size : Int) - 1)) ≤ (x0.size : Int) then (strings_trimRightByte.l0 k (x0.extract 0 ((wrap64 ((x0.size : Int) - 1)) : Int).toNat) x1) else (none)) else (some x0)) else (none)) else (none)) else (some x0)
def strings_trimRightByte.f (k : Nat) (a0 : ByteArray) (a1 : Int) : Option (ByteArray) := strings_trimRightByte.l0 k a0 a1
theorem strings_trimRightByte.mono_l : ∀ k, (∀ y0 y1, LeO (strings_trimRightByte.l0 k y0 y1) (strings_trimRightByte.l0 (k + 1) y0 y1))
  | 0 => fun _ _ r h => by simp [strings_trimRightByte.l0] at h
  | k + 1 => by
   have ih0 := strings_trimRightByte.mono_l k
   intros
   unfold strings_trimRightByte.l0
   all_goals repeat' first | (with_reducible first | apply ih0 | exact LeO.refl _ | exact LeO.none _ | refine LeO.ite ?_ ?_ | refine LeO.bind ?_ (fun _ => ?_)) | apply ih0 | exact LeO.none _ | refine LeO.ite ?_ ?_ | refine LeO.bind ?_ (fun _ => ?_)
theorem strings_trimRightByte.mono : ∀ a0 a1 k, LeO (strings_trimRightByte.f k a0 a1) (strings_trimRightByte.f (k + 1) a0 a1) := by
  intro a0 a1 k
  have ih0 := strings_trimRightByte.mono_l k
  unfold strings_trimRightByte.f
  repeat' first | (with_reducible first | apply ih0 | exact LeO.refl _ | exact LeO.none _ | refine LeO.ite ?_ ?_ | refine LeO.bind ?_ (fun _ => ?_)) | apply ih0 | exact LeO.none _ | refine LeO.ite ?_ ?_ | refine LeO.bind ?_ (fun _ => ?_)
set_option maxHeartbeats 8000000 in
set_option maxRecDepth 100000 in
theorem strings_trimRightByte.calls (k : Nat) (a0 : ByteArray) (a1 : Int) (r : ByteArray) (w : World) (h : strings_trimRightByte.f k a0 a1 = some r) :
    Calls Tryd.prog 54 #[.string a0, .int .u8 a1] w fun e w' => e = .returned (.string r) ∧ Drawn0 w w' := by
 have H : (strings_trimRightByte.l0 k a0 a1) = some r := h; clear h; have H' := mA H; clear H; go_enter Tryd.func54, Tryd.ntmps54; go_wp2; go_loopg [0] k (fun kq v0 w' => ∃ (x0_1 : ByteArray), v0 = .string x0_1 ∧ Aside0 (strings_trimRightByte.l0 kq x0_1 a1 = some r) ∧ Aside0 (kq ≤ k) ∧ Drawn0 w w')
 case atStart => exact ⟨(a0), z1, H', ⟨Nat.le_refl _⟩, z2⟩
 case round =>
  clear H'; (try clear p2); obtain ⟨x0_1, rfl, HA, HK1, ⟨m1, rfl⟩⟩ := hrel
  cases gk with
  | zero => exact absurd HA.out (by simp [strings_trimRightByte.l0])
  | succ k1 =>
   have H := HA.out; clear HA; simp only [strings_trimRightByte.l0] at H; refine sqC ((x0_1.size : Int) > 0) (fun c3 => ?_) (fun c3 => ?_)
   ·rw [if_neg c3] at H; have c3b0 := decide_eq_false c3; have c3b1 : decide (0 < x0_1.size) = false := decide_eq_false (by omega); clear c3; obtain rfl := Option.some.inj H; go_wp2; go_ret; exact ⟨z1, z2⟩
   rw [if_pos c3] at H; have c3b0 := decide_eq_true c3; have c3b1 : decide (0 < x0_1.size) = true := decide_eq_true (by omega); clear c3; obtain ⟨ji4, hji4⟩ : ∃ j_ : Int, (wrap64 ((x0_1.size : Int) - 1)) = j_ := ⟨_, rfl⟩
   replace H : (if 0 ≤ (ji4) then (if (ji4) < (x0_1.size : Int) then (if (bt x0_1 (ji4)) = a1 then (if (ji4) ≤ (x0_1.size : Int) then (strings_trimRightByte.l0 k1 (x0_1.extract 0 ((ji4) : Int).toNat) a1) else (none)) else (some x0_1)) else (none)) else (none)) = some r := by first | (rw [hji4] at H; exact H) | (simp only [hji4] at H ⊢; exact H)
   have hji4w : (IntKind.i64.wrap ((x0_1.size : Int) - 1)) = ji4 := (i64_w _).trans hji4; obtain ⟨c5, H⟩ := sqI H; replace c5 := decide_eq_true c5; obtain ⟨c6, H⟩ := sqI H; replace c6 := decide_eq_true c6; refine sqC ((bt x0_1 (ji4)) = a1) (fun c8 => ?_) (fun c8 => ?_)
   ·rw [if_neg c8] at H; have c8b0 : ((bt x0_1 (ji4)) == a1) = false := beq_eq_false_iff_ne.mpr c8; have c8b1 : ((bt x0_1 (ji4)) != a1) = true := bne_iff_ne.mpr c8; obtain rfl := Option.some.inj H; have p7 : 0 ≤ ((ji4) : Int) := sqd; have q7 : (ji4) < (x0_1.size : Int) := sqd; have hx7 := bt_at x0_1 (ji4); replace p7 := eq_true p7; replace q7 := eq_true q7; go_wp2; go_ret; exact ⟨by first | rfl | (simp; done) | (simp only [← hji4] <;> (first | rfl | simp)) | (simp [*]; done), z2⟩
   rw [if_pos c8] at H; have c8b0 : ((bt x0_1 (ji4)) == a1) = true := beq_iff_eq.mpr c8; have c8b1 : ((bt x0_1 (ji4)) != a1) = false := bne_eq_false_iff_eq.mpr c8; clear c8; have c9b0 := eq_true (sqd : 0 ≤ (ji4)); obtain ⟨c10, H⟩ := sqI H; have c10b0 := eq_true c10; have c10b1 := decide_eq_true c10; clear c10; have H' := mA H; clear H; have p7 : 0 ≤ ((ji4) : Int) := sqd; have q7 : (ji4) < (x0_1.size : Int) := sqd; have hx7 := bt_at x0_1 (ji4); replace p7 := eq_true p7; replace q7 := eq_true q7; go_wp2; go_roundg k1
   case measure => have := HK1.out; omega
   case rel => exact ⟨(x0_1.extract 0 ((ji4) : Int).toNat), (by first | rfl | (simp; done) | (simp only [← hji4] <;> (first | rfl | simp)) | (simp [*]; done)), H', ⟨by have := HK1.out; omega⟩, z2⟩

-- NOT PRINTED: function 55 (strings_makeASCIISet)

-- NOT PRINTED: function 65 (strings_asciiSet_contains)

-- NOT PRINTED: function 56 (strings_trimLeftASCII)

-- NOT PRINTED: function 57 (strings_trimRightASCII)

-- NOT PRINTED: function 69 (utf8_decodeRuneInStringSlow)

-- NOT PRINTED: function 66 (utf8_DecodeRuneInString)

-- NOT PRINTED: function 77 (bytealg_IndexByteString)

-- NOT PRINTED: function 76 (stringslite_IndexByte)

-- NOT PRINTED: function 72 (strings_IndexByte)

end Go.Proofs.YtkmghekffehimaaDoor.PFnExactIsBalanced
