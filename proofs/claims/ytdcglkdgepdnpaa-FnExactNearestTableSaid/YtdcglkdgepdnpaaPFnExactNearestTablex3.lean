/- Written by this session's program (wip/tool/xprint.py) over the kit's printer. -/
import Derived.Test.YtdcglkdgepdnpaaPFnExactNearestTablex0
import Derived.Test.YtdcglkdgepdnpaaPFnExactNearestTablex2
namespace Go.Proofs.Ytdcglkdgepdnpaa.PFnExactNearestTable
open Go.RowKit Go.Proofs.YtdcglkdgepdnpaaW.PrintWords Go.Proofs.YtdcglkdgepdnpaaW.PrintLast Go.Proofs.YtdcglkdgepdnpaaW.PrintMore
attribute [local go_sem] max2_int min2_int max_two min_two max_three min_three max_four min_four   -- for this text's walks alone
set_option linter.unusedVariables false
set_option linter.unusedSimpArgs false

/-! ### spec_l05Is: function 17 -/
mutual
def spec_l05Is.j0 : Nat → Bool → Int → List (List Int) → Option (Bool)
  | 0, _, _, _ => none
  | k + 1, x30, x41000, x41001 => if x30 = true then (some false) else (spec_l05Is.l0 k 0 x41000 x41001)
def spec_l05Is.l0 : Nat → Int → Int → List (List Int) → Option (Bool)
  | 0, _, _, _ => none
  | k + 1, x3, x41000, x41001 => if x3 < (x41001.length : Int) then (if 0 ≤ x3 then (if 0 < (x41001.length : Int) then (if ((rd_L1 x41001 x3).length : Int) = ((rd_L1 x41001 0).length : Int) then (spec_l05Is.l1 k x3 0 x41000 x41001) else (some false)) else (none)) else (none)) else (some true)
def spec_l05Is.l1 : Nat → Int → Int → Int → List (List Int) → Option (Bool)
  | 0, _, _, _, _ => none
  | k + 1, x3, x4, x41000, x41001 => if 0 ≤ x3 then (if x3 < (x41001.length : Int) then (if x4 < ((rd_L1 x41001 x3).length : Int) then (if 0 ≤ x4 then ((spec_l00In.f (rd (rd_L1 x41001 x3) x4) 0 100000).bind fun t141 => (if t141 = true then (spec_l05Is.l1 k x3 (wrap64 (x4 + 1)) x41000 x41001) else (some false))) else (none)) else (spec_l05Is.l0 k (wrap64 (x3 + 1)) x41000 x41001)) else (none)) else (none)
end
def spec_l05Is.f (k : Nat) (a0_0 : Int) (l0_1 : List (List Int)) : Option (Bool) := (spec_l00In.f a0_0 1 1000).bind fun t132 => (if t132 = true then ((spec_l05Side.f (l0_1.length : Int)).bind fun t133 => (if t133 = true then (if 0 < (l0_1.length : Int) then ((spec_l05Side.f ((rd_L1 l0_1 0).length : Int)).bind fun t135 => (spec_l05Is.j0 k (!t135) a0_0 l0_1)) else (none)) else (spec_l05Is.j0 k true a0_0 l0_1))) else (spec_l05Is.j0 k true a0_0 l0_1))
theorem spec_l05Is.mono_l : ∀ k, (∀ y0 y1 y2, LeO (spec_l05Is.j0 k y0 y1 y2) (spec_l05Is.j0 (k + 1) y0 y1 y2)) ∧ (∀ y0 y1 y2, LeO (spec_l05Is.l0 k y0 y1 y2) (spec_l05Is.l0 (k + 1) y0 y1 y2)) ∧ (∀ y0 y1 y2 y3, LeO (spec_l05Is.l1 k y0 y1 y2 y3) (spec_l05Is.l1 (k + 1) y0 y1 y2 y3))
  | 0 => ⟨fun _ _ _ r h => by simp [spec_l05Is.j0] at h, fun _ _ _ r h => by simp [spec_l05Is.l0] at h, fun _ _ _ _ r h => by simp [spec_l05Is.l1] at h⟩
  | k + 1 => by
   obtain ⟨ih0, ih1, ih2⟩ := spec_l05Is.mono_l k
   refine ⟨?_, ?_, ?_⟩ <;> intros
   all_goals first | unfold spec_l05Is.j0 | unfold spec_l05Is.l0 | unfold spec_l05Is.l1
   all_goals repeat' first | (with_reducible first | apply ih0 | apply ih1 | apply ih2 | exact LeO.refl _ | exact LeO.none _ | refine LeO.ite ?_ ?_ | refine LeO.bind ?_ (fun _ => ?_)) | apply ih0 | apply ih1 | apply ih2 | exact LeO.none _ | refine LeO.ite ?_ ?_ | refine LeO.bind ?_ (fun _ => ?_)
theorem spec_l05Is.mono : ∀ a0 a1 k, LeO (spec_l05Is.f k a0 a1) (spec_l05Is.f (k + 1) a0 a1) := by
  intro a0 a1 k
  obtain ⟨ih0, ih1, ih2⟩ := spec_l05Is.mono_l k
  unfold spec_l05Is.f
  repeat' first | (with_reducible first | apply ih0 | apply ih1 | apply ih2 | exact LeO.refl _ | exact LeO.none _ | refine LeO.ite ?_ ?_ | refine LeO.bind ?_ (fun _ => ?_)) | apply ih0 | apply ih1 | apply ih2 | exact LeO.none _ | refine LeO.ite ?_ ?_ | refine LeO.bind ?_ (fun _ => ?_)
set_option maxHeartbeats 8000000 in
set_option maxRecDepth 100000 in
theorem spec_l05Is.calls (k : Nat) (gv0_0_ : Nat) (a0_0 : Int) (A0_1 : Option Addr) (c0_1 : Nat) (l0_1 : List (List Int)) (r : Bool) (w : World) (hbx0_0_ : w.heap[gv0_0_]? = some (.cells #[.int .i64 a0_0, .slice A0_1 l0_1.length c0_1] 28 (0, 0))) (hr0_1 : Kd.C (Kd.slice 2 (Kd.int .i64)) w A0_1 l0_1.length l0_1) (hc0_1 : l0_1.length ≤ c0_1) (h : spec_l05Is.f k a0_0 l0_1 = some r) :
    Calls Try.prog 17 #[.pointer (some ⟨gv0_0_, 0, none⟩)] w fun e w' => e = .returned (.bool r) ∧ Below w.heap.size w w' := by
 have HR0_1 := mA hr0_1; have HC0_1 := mA hc0_1; clear hr0_1 hc0_1; have BK40 := mA hbx0_0_; clear hbx0_0_; have HB := mA (Below.refl w.heap.size w); have H : ((spec_l00In.f a0_0 1 1000).bind fun t132 => (if t132 = true then ((spec_l05Side.f (l0_1.length : Int)).bind fun t133 => (if t133 = true then (if 0 < (l0_1.length : Int) then ((spec_l05Side.f ((rd_L1 l0_1 0).length : Int)).bind fun t135 => (spec_l05Is.j0 k (!t135) a0_0 l0_1)) else (none)) else (spec_l05Is.j0 k true a0_0 l0_1))) else (spec_l05Is.j0 k true a0_0 l0_1))) = some r := h; clear h; have HC2 := mA H; clear H; go_enter Try.func17, Try.ntmps17
 go_upto_region 1 with (fail)
 repeat (go_quiet (fail); go_upto_region 1 with (fail))
 go_cut [30] (fun v30 wc => ∃ (kq : Nat) (x30_1 : Bool), v30 = .bool x30_1 ∧ Aside0 (spec_l05Is.j0 kq x30_1 a0_0 l0_1 = some r) ∧ Aside0 (kq ≤ k) ∧ Aside0 (wc.heap[gv0_0_]? = some (.cells #[.int .i64 a0_0, (.slice A0_1 l0_1.length c0_1)] 28 (0, 0))) ∧ Aside0 (Below w.heap.size w wc))
 case first =>
  have H := HC2.out; clear HC2; obtain ⟨t132, A3, H⟩ := sqB H; by_cases c4 : t132 = true
  ·subst c4; rw [if_pos rfl] at H; obtain ⟨t133, A5, H⟩ := sqB H; by_cases c6 : t133 = true
   ·subst c6; rw [if_pos rfl] at H; obtain ⟨c7, H⟩ := sqI H; have c7b0 := decide_eq_true c7; have c7b1 : decide (0 < l0_1.length) = true := decide_eq_true (by omega); clear c7; (first | rw [c7b0] | (simp only [i64_w, i32_w]; rw [c7b0]) | skip); obtain ⟨t135, A8, H⟩ := sqB H; have H' := mA H; clear H; obtain ⟨hcz9_0, hfz9_0⟩ := sqW0 BK40; obtain ⟨hcz9_1, hfz9_1⟩ := sqW1 BK40; go_wp2_with (first | (go_at_call 35; (with_reducible refine (spec_l00In.calls a0_0 1 1000 true _ A3.out).mono ?_); rintro e w' ⟨rfl, ⟨nd, rfl⟩⟩; (try first | exact ⟨rfl, _, World.drewN_drewN _ _ _⟩ | exact ⟨rfl, _, Eq.trans (World.drewN_drewN _ _ _) (congrArg (World.drewN _) (Nat.add_assoc _ _ _))⟩)) | (go_at_call 36; (with_reducible refine (spec_l05Side.calls (l0_1.length : Int) true _ A5.out).mono ?_); rintro e w' ⟨rfl, ⟨nd, rfl⟩⟩; (try first | exact ⟨rfl, _, World.drewN_drewN _ _ _⟩ | exact ⟨rfl, _, Eq.trans (World.drewN_drewN _ _ _) (congrArg (World.drewN _) (Nat.add_assoc _ _ _))⟩); have p134 : 0 ≤ (0 : Int) := (by omega); have q134 : 0 < (l0_1.length : Int) := sqd; obtain ⟨ad134, A134_0, c134_0, e134, hx134_0, hl134_0, hi134_0⟩ := at_L1 HR0_1.out 0 p134 q134; cases e134; have qi134 : (0 < l0_1.length) = True := eq_true (by omega); (try rw [show ((0 : Int)).toNat = 0 from rfl] at hx134_0); (try rw [Addr.add_zero'] at hx134_0); replace hx134_0 := sqh HB hx134_0; have HR134_0 := mA hi134_0; have HC134_0 := mA hl134_0; clear hi134_0 hl134_0; replace p134 := eq_true p134; replace q134 := eq_true q134) | (go_at_call 36; (with_reducible refine (spec_l05Side.calls ((rd_L1 l0_1 0).length : Int) t135 _ A8.out).mono ?_); rintro e w' ⟨rfl, ⟨nd, rfl⟩⟩; (try first | exact ⟨rfl, _, World.drewN_drewN _ _ _⟩ | exact ⟨rfl, _, Eq.trans (World.drewN_drewN _ _ _) (congrArg (World.drewN _) (Nat.add_assoc _ _ _))⟩)))
    repeat (go_quiet (first | (go_at_call 35; (with_reducible refine (spec_l00In.calls a0_0 1 1000 true _ A3.out).mono ?_); rintro e w' ⟨rfl, ⟨nd, rfl⟩⟩; (try first | exact ⟨rfl, _, World.drewN_drewN _ _ _⟩ | exact ⟨rfl, _, Eq.trans (World.drewN_drewN _ _ _) (congrArg (World.drewN _) (Nat.add_assoc _ _ _))⟩)) | (go_at_call 36; (with_reducible refine (spec_l05Side.calls (l0_1.length : Int) true _ A5.out).mono ?_); rintro e w' ⟨rfl, ⟨nd, rfl⟩⟩; (try first | exact ⟨rfl, _, World.drewN_drewN _ _ _⟩ | exact ⟨rfl, _, Eq.trans (World.drewN_drewN _ _ _) (congrArg (World.drewN _) (Nat.add_assoc _ _ _))⟩); have p134 : 0 ≤ (0 : Int) := (by omega); have q134 : 0 < (l0_1.length : Int) := sqd; obtain ⟨ad134, A134_0, c134_0, e134, hx134_0, hl134_0, hi134_0⟩ := at_L1 HR0_1.out 0 p134 q134; cases e134; have qi134 : (0 < l0_1.length) = True := eq_true (by omega); (try rw [show ((0 : Int)).toNat = 0 from rfl] at hx134_0); (try rw [Addr.add_zero'] at hx134_0); replace hx134_0 := sqh HB hx134_0; have HR134_0 := mA hi134_0; have HC134_0 := mA hl134_0; clear hi134_0 hl134_0; replace p134 := eq_true p134; replace q134 := eq_true q134) | (go_at_call 36; (with_reducible refine (spec_l05Side.calls ((rd_L1 l0_1 0).length : Int) t135 _ A8.out).mono ?_); rintro e w' ⟨rfl, ⟨nd, rfl⟩⟩; (try first | exact ⟨rfl, _, World.drewN_drewN _ _ _⟩ | exact ⟨rfl, _, Eq.trans (World.drewN_drewN _ _ _) (congrArg (World.drewN _) (Nat.add_assoc _ _ _))⟩))); try go_wp2_with (first | (go_at_call 35; (with_reducible refine (spec_l00In.calls a0_0 1 1000 true _ A3.out).mono ?_); rintro e w' ⟨rfl, ⟨nd, rfl⟩⟩; (try first | exact ⟨rfl, _, World.drewN_drewN _ _ _⟩ | exact ⟨rfl, _, Eq.trans (World.drewN_drewN _ _ _) (congrArg (World.drewN _) (Nat.add_assoc _ _ _))⟩)) | (go_at_call 36; (with_reducible refine (spec_l05Side.calls (l0_1.length : Int) true _ A5.out).mono ?_); rintro e w' ⟨rfl, ⟨nd, rfl⟩⟩; (try first | exact ⟨rfl, _, World.drewN_drewN _ _ _⟩ | exact ⟨rfl, _, Eq.trans (World.drewN_drewN _ _ _) (congrArg (World.drewN _) (Nat.add_assoc _ _ _))⟩); have p134 : 0 ≤ (0 : Int) := (by omega); have q134 : 0 < (l0_1.length : Int) := sqd; obtain ⟨ad134, A134_0, c134_0, e134, hx134_0, hl134_0, hi134_0⟩ := at_L1 HR0_1.out 0 p134 q134; cases e134; have qi134 : (0 < l0_1.length) = True := eq_true (by omega); (try rw [show ((0 : Int)).toNat = 0 from rfl] at hx134_0); (try rw [Addr.add_zero'] at hx134_0); replace hx134_0 := sqh HB hx134_0; have HR134_0 := mA hi134_0; have HC134_0 := mA hl134_0; clear hi134_0 hl134_0; replace p134 := eq_true p134; replace q134 := eq_true q134) | (go_at_call 36; (with_reducible refine (spec_l05Side.calls ((rd_L1 l0_1 0).length : Int) t135 _ A8.out).mono ?_); rintro e w' ⟨rfl, ⟨nd, rfl⟩⟩; (try first | exact ⟨rfl, _, World.drewN_drewN _ _ _⟩ | exact ⟨rfl, _, Eq.trans (World.drewN_drewN _ _ _) (congrArg (World.drewN _) (Nat.add_assoc _ _ _))⟩))))
    go_meet
    case rel => exact ⟨_, (!t135), zq4, H', ⟨by first | omega | exact Nat.le_refl _⟩, ⟨zq0 BK40⟩, ⟨zq1⟩⟩
   replace c6 := Bool.eq_false_iff.mpr c6; subst c6; rw [if_neg (show ¬ (false = true) by decide)] at H; have H' := mA H; clear H; obtain ⟨hcz10_0, hfz10_0⟩ := sqW0 BK40; obtain ⟨hcz10_1, hfz10_1⟩ := sqW1 BK40; go_wp2_with (first | (go_at_call 35; (with_reducible refine (spec_l00In.calls a0_0 1 1000 true _ A3.out).mono ?_); rintro e w' ⟨rfl, ⟨nd, rfl⟩⟩; (try first | exact ⟨rfl, _, World.drewN_drewN _ _ _⟩ | exact ⟨rfl, _, Eq.trans (World.drewN_drewN _ _ _) (congrArg (World.drewN _) (Nat.add_assoc _ _ _))⟩)) | (go_at_call 36; (with_reducible refine (spec_l05Side.calls (l0_1.length : Int) false _ A5.out).mono ?_); rintro e w' ⟨rfl, ⟨nd, rfl⟩⟩; (try first | exact ⟨rfl, _, World.drewN_drewN _ _ _⟩ | exact ⟨rfl, _, Eq.trans (World.drewN_drewN _ _ _) (congrArg (World.drewN _) (Nat.add_assoc _ _ _))⟩)))
   repeat (go_quiet (first | (go_at_call 35; (with_reducible refine (spec_l00In.calls a0_0 1 1000 true _ A3.out).mono ?_); rintro e w' ⟨rfl, ⟨nd, rfl⟩⟩; (try first | exact ⟨rfl, _, World.drewN_drewN _ _ _⟩ | exact ⟨rfl, _, Eq.trans (World.drewN_drewN _ _ _) (congrArg (World.drewN _) (Nat.add_assoc _ _ _))⟩)) | (go_at_call 36; (with_reducible refine (spec_l05Side.calls (l0_1.length : Int) false _ A5.out).mono ?_); rintro e w' ⟨rfl, ⟨nd, rfl⟩⟩; (try first | exact ⟨rfl, _, World.drewN_drewN _ _ _⟩ | exact ⟨rfl, _, Eq.trans (World.drewN_drewN _ _ _) (congrArg (World.drewN _) (Nat.add_assoc _ _ _))⟩))); try go_wp2_with (first | (go_at_call 35; (with_reducible refine (spec_l00In.calls a0_0 1 1000 true _ A3.out).mono ?_); rintro e w' ⟨rfl, ⟨nd, rfl⟩⟩; (try first | exact ⟨rfl, _, World.drewN_drewN _ _ _⟩ | exact ⟨rfl, _, Eq.trans (World.drewN_drewN _ _ _) (congrArg (World.drewN _) (Nat.add_assoc _ _ _))⟩)) | (go_at_call 36; (with_reducible refine (spec_l05Side.calls (l0_1.length : Int) false _ A5.out).mono ?_); rintro e w' ⟨rfl, ⟨nd, rfl⟩⟩; (try first | exact ⟨rfl, _, World.drewN_drewN _ _ _⟩ | exact ⟨rfl, _, Eq.trans (World.drewN_drewN _ _ _) (congrArg (World.drewN _) (Nat.add_assoc _ _ _))⟩))))
   go_meet
   case rel => exact ⟨_, (true), zq4, H', ⟨by first | omega | exact Nat.le_refl _⟩, ⟨zq0 BK40⟩, ⟨zq1⟩⟩
  replace c4 := Bool.eq_false_iff.mpr c4; subst c4; rw [if_neg (show ¬ (false = true) by decide)] at H; have H' := mA H; clear H; obtain ⟨hcz11_0, hfz11_0⟩ := sqW0 BK40; obtain ⟨hcz11_1, hfz11_1⟩ := sqW1 BK40; go_wp2_with (first | (go_at_call 35; (with_reducible refine (spec_l00In.calls a0_0 1 1000 false _ A3.out).mono ?_); rintro e w' ⟨rfl, ⟨nd, rfl⟩⟩; (try first | exact ⟨rfl, _, World.drewN_drewN _ _ _⟩ | exact ⟨rfl, _, Eq.trans (World.drewN_drewN _ _ _) (congrArg (World.drewN _) (Nat.add_assoc _ _ _))⟩)))
  repeat (go_quiet (first | (go_at_call 35; (with_reducible refine (spec_l00In.calls a0_0 1 1000 false _ A3.out).mono ?_); rintro e w' ⟨rfl, ⟨nd, rfl⟩⟩; (try first | exact ⟨rfl, _, World.drewN_drewN _ _ _⟩ | exact ⟨rfl, _, Eq.trans (World.drewN_drewN _ _ _) (congrArg (World.drewN _) (Nat.add_assoc _ _ _))⟩))); try go_wp2_with (first | (go_at_call 35; (with_reducible refine (spec_l00In.calls a0_0 1 1000 false _ A3.out).mono ?_); rintro e w' ⟨rfl, ⟨nd, rfl⟩⟩; (try first | exact ⟨rfl, _, World.drewN_drewN _ _ _⟩ | exact ⟨rfl, _, Eq.trans (World.drewN_drewN _ _ _) (congrArg (World.drewN _) (Nat.add_assoc _ _ _))⟩))))
  go_meet
  case rel => exact ⟨_, (true), zq4, H', ⟨by first | omega | exact Nat.le_refl _⟩, ⟨zq0 BK40⟩, ⟨zq1⟩⟩
 case rest =>
  clear HC2; obtain ⟨kq, x30_1, rfl, HA, HJ1, BK40, HB⟩ := hcut
  cases kq with
  | zero => exact absurd HA.out (by simp [spec_l05Is.j0])
  | succ kj1 =>
   have H := HA.out; clear HA; simp only [spec_l05Is.j0] at H; by_cases c12 : x30_1 = true
   ·subst c12; rw [if_pos rfl] at H; obtain rfl := Option.some.inj H; go_wp2
    repeat (go_quiet (fail); try go_wp2)
    go_ret; exact ⟨zq6, zq1⟩
   replace c12 := Bool.eq_false_iff.mpr c12; subst c12; rw [if_neg (show ¬ (false = true) by decide)] at H; have H' := mA H; clear H; go_wp2
   repeat (go_quiet (fail); try go_wp2)
   go_loopg [3] kj1 (fun kq v3 w' => ∃ (x3_2 : Int), v3 = .int .i64 x3_2 ∧ Aside0 (spec_l05Is.l0 kq x3_2 a0_0 l0_1 = some r) ∧ Aside0 (kq ≤ kj1) ∧ Aside0 (w'.heap[gv0_0_]? = some (.cells #[.int .i64 a0_0, (.slice A0_1 l0_1.length c0_1)] 28 (0, 0))) ∧ Aside0 (Below w.heap.size w w'))
   case atStart => exact ⟨(0), zq4, H', ⟨Nat.le_refl _⟩, ⟨zq0 BK40⟩, ⟨zq1⟩⟩
   case round =>
    clear H'; (try clear c12); obtain ⟨x3_2, rfl, HA, HK2, BK40, HB⟩ := hrel
    cases gk with
    | zero => exact absurd HA.out (by simp [spec_l05Is.l0])
    | succ k2 =>
     have H := HA.out; clear HA; simp only [spec_l05Is.l0] at H; refine sqC (x3_2 < (l0_1.length : Int)) (fun c13 => ?_) (fun c13 => ?_)
     ·rw [if_neg c13] at H; replace c13 := decide_eq_false c13; obtain rfl := Option.some.inj H; obtain ⟨hcz28_0, hfz28_0⟩ := sqW0 BK40; obtain ⟨hcz28_1, hfz28_1⟩ := sqW1 BK40; go_wp2
      repeat (go_quiet (fail); try go_wp2)
      go_ret; exact ⟨zq6, zq1⟩
     rw [if_pos c13] at H; replace c13 := decide_eq_true c13; obtain ⟨c14, H⟩ := sqI H; replace c14 := decide_eq_true c14; obtain ⟨c15, H⟩ := sqI H; have c15b0 := decide_eq_true c15; have c15b1 : decide (0 < l0_1.length) = true := decide_eq_true (by omega); clear c15; refine sqC (((rd_L1 l0_1 x3_2).length : Int) = ((rd_L1 l0_1 0).length : Int)) (fun c16 => ?_) (fun c16 => ?_)
     ·rw [if_neg c16] at H; have c16b0 : (((rd_L1 l0_1 x3_2).length : Int) == ((rd_L1 l0_1 0).length : Int)) = false := beq_eq_false_iff_ne.mpr c16; have c16b1 : (((rd_L1 l0_1 x3_2).length : Int) != ((rd_L1 l0_1 0).length : Int)) = true := bne_iff_ne.mpr c16
      have c16b2 : ((rd_L1 l0_1 x3_2).length == (rd_L1 l0_1 0).length) = false := by first | simpa using c16 | (simp at c16 ⊢; omega)
      obtain rfl := Option.some.inj H; obtain ⟨hcz27_0, hfz27_0⟩ := sqW0 BK40; obtain ⟨hcz27_1, hfz27_1⟩ := sqW1 BK40; have p136 : 0 ≤ (x3_2 : Int) := sqd; have q136 : x3_2 < (l0_1.length : Int) := sqd; obtain ⟨ad136, A136_0, c136_0, e136, hx136_0, hl136_0, hi136_0⟩ := at_L1 HR0_1.out x3_2 p136 q136
      cases e136
      replace hx136_0 := sqh HB hx136_0; have HR136_0 := mA hi136_0; have HC136_0 := mA hl136_0; clear hi136_0 hl136_0; replace p136 := eq_true p136; replace q136 := eq_true q136; have p137 : 0 ≤ (0 : Int) := (by omega); have q137 : 0 < (l0_1.length : Int) := sqd; obtain ⟨ad137, A137_0, c137_0, e137, hx137_0, hl137_0, hi137_0⟩ := at_L1 HR0_1.out 0 p137 q137; obtain rfl : ad136 = ad137 := (by injection e137); have qi137 : (0 < l0_1.length) = True := eq_true (by omega); (try rw [show ((0 : Int)).toNat = 0 from rfl] at hx137_0); (try rw [Addr.add_zero'] at hx137_0); replace hx137_0 := sqh HB hx137_0; have HR137_0 := mA hi137_0; have HC137_0 := mA hl137_0; clear hi137_0 hl137_0; replace p137 := eq_true p137; replace q137 := eq_true q137; go_wp2
      repeat (go_quiet (fail); try go_wp2)
      go_ret; exact ⟨zq6, zq1⟩
     rw [if_pos c16] at H; have c16b0 : (((rd_L1 l0_1 x3_2).length : Int) == ((rd_L1 l0_1 0).length : Int)) = true := beq_iff_eq.mpr c16; have c16b1 : (((rd_L1 l0_1 x3_2).length : Int) != ((rd_L1 l0_1 0).length : Int)) = false := bne_eq_false_iff_eq.mpr c16
     have c16b2 : ((rd_L1 l0_1 x3_2).length == (rd_L1 l0_1 0).length) = true := by first | simpa using c16 | (simp at c16 ⊢; omega)
     clear c16; have H' := mA H; clear H; obtain ⟨hcz17_0, hfz17_0⟩ := sqW0 BK40; obtain ⟨hcz17_1, hfz17_1⟩ := sqW1 BK40; have p136 : 0 ≤ (x3_2 : Int) := sqd; have q136 : x3_2 < (l0_1.length : Int) := sqd; obtain ⟨ad136, A136_0, c136_0, e136, hx136_0, hl136_0, hi136_0⟩ := at_L1 HR0_1.out x3_2 p136 q136
     cases e136
     replace hx136_0 := sqh HB hx136_0; have HR136_0 := mA hi136_0; have HC136_0 := mA hl136_0; clear hi136_0 hl136_0; replace p136 := eq_true p136; replace q136 := eq_true q136; have p137 : 0 ≤ (0 : Int) := (by omega); have q137 : 0 < (l0_1.length : Int) := sqd; obtain ⟨ad137, A137_0, c137_0, e137, hx137_0, hl137_0, hi137_0⟩ := at_L1 HR0_1.out 0 p137 q137; obtain rfl : ad136 = ad137 := (by injection e137); have qi137 : (0 < l0_1.length) = True := eq_true (by omega); (try rw [show ((0 : Int)).toNat = 0 from rfl] at hx137_0); (try rw [Addr.add_zero'] at hx137_0); replace hx137_0 := sqh HB hx137_0; have HR137_0 := mA hi137_0; have HC137_0 := mA hl137_0; clear hi137_0 hl137_0; replace p137 := eq_true p137; replace q137 := eq_true q137; go_wp2
     repeat (go_quiet (fail); try go_wp2)
     go_loopg [4] k2 (fun kq v4 w' => ∃ (x4_3 : Int), v4 = .int .i64 x4_3 ∧ Aside0 (spec_l05Is.l1 kq x3_2 x4_3 a0_0 l0_1 = some r) ∧ Aside0 (kq ≤ k2) ∧ Aside0 (w'.heap[gv0_0_]? = some (.cells #[.int .i64 a0_0, (.slice (some ad136) l0_1.length c0_1)] 28 (0, 0))) ∧ Aside0 (Below w.heap.size w w'))
     case atStart => exact ⟨(0), zq4, H', ⟨Nat.le_refl _⟩, ⟨zq0 BK40⟩, ⟨zq1⟩⟩
     case round =>
      clear H'; (try clear c12); (try clear c13); (try clear c13b0); (try clear c14); (try clear c14b0); (try clear c15); (try clear c15b0); (try clear c15b1); (try clear c16); (try clear c16b0); (try clear c16b1); (try clear c16b2); (try clear hcz17_0); (try clear hcz17_1); (try clear hfz17_0); (try clear hfz17_1); (try clear hx136_0); (try clear hx137_0); (try clear p136); (try clear p137); (try clear q136); (try clear q137); obtain ⟨x4_3, rfl, HA, HK3, BK40, HB⟩ := hrel
      cases gk with
      | zero => exact absurd HA.out (by simp [spec_l05Is.l1])
      | succ k3 =>
       have H := HA.out; clear HA; simp only [spec_l05Is.l1] at H; obtain ⟨c18, H⟩ := sqI H; replace c18 := decide_eq_true c18; obtain ⟨c19, H⟩ := sqI H; replace c19 := decide_eq_true c19; refine sqC (x4_3 < ((rd_L1 l0_1 x3_2).length : Int)) (fun c20 => ?_) (fun c20 => ?_)
       ·rw [if_neg c20] at H; replace c20 := decide_eq_false c20; have H' := mA H; clear H; obtain ⟨hcz26_0, hfz26_0⟩ := sqW0 BK40; obtain ⟨hcz26_1, hfz26_1⟩ := sqW1 BK40; have p138 : 0 ≤ (x3_2 : Int) := sqd; have q138 : x3_2 < (l0_1.length : Int) := sqd; obtain ⟨ad138, A138_0, c138_0, e138, hx138_0, hl138_0, hi138_0⟩ := at_L1 HR0_1.out x3_2 p138 q138; obtain rfl : ad136 = ad138 := (by injection e138); replace hx138_0 := sqh HB hx138_0; have HR138_0 := mA hi138_0; have HC138_0 := mA hl138_0; clear hi138_0 hl138_0; replace p138 := eq_true p138; replace q138 := eq_true q138; go_wp2
        repeat (go_quiet (fail); try go_wp2)
        go_roundg k3
        case measure => have := HJ1.out; have := HK2.out; have := HK3.out; omega
        case rel => exact ⟨(wrap64 (x3_2 + 1)), zq4, H', ⟨zq30 HJ1 HK2 HK3⟩, ⟨zq0 BK40⟩, ⟨zq1⟩⟩
       rw [if_pos c20] at H; replace c20 := decide_eq_true c20; obtain ⟨c21, H⟩ := sqI H; replace c21 := decide_eq_true c21; obtain ⟨t141, A22, H⟩ := sqB H; refine sqC (t141 = true) (fun c23 => ?_) (fun c23 => ?_)
       ·replace c23 := Bool.eq_false_iff.mpr c23; subst c23; rw [if_neg (show ¬ (false = true) by decide)] at H; obtain rfl := Option.some.inj H; obtain ⟨hcz25_0, hfz25_0⟩ := sqW0 BK40; obtain ⟨hcz25_1, hfz25_1⟩ := sqW1 BK40; have p138 : 0 ≤ (x3_2 : Int) := sqd; have q138 : x3_2 < (l0_1.length : Int) := sqd; obtain ⟨ad138, A138_0, c138_0, e138, hx138_0, hl138_0, hi138_0⟩ := at_L1 HR0_1.out x3_2 p138 q138; obtain rfl : ad136 = ad138 := (by injection e138); replace hx138_0 := sqh HB hx138_0; have HR138_0 := mA hi138_0; have HC138_0 := mA hl138_0; clear hi138_0 hl138_0; replace p138 := eq_true p138; replace q138 := eq_true q138; have p139 : 0 ≤ (x3_2 : Int) := sqd; have q139 : x3_2 < (l0_1.length : Int) := sqd; obtain ⟨ad139, A139_0, c139_0, e139, hx139_0, hl139_0, hi139_0⟩ := at_L1 HR0_1.out x3_2 p139 q139; obtain rfl : ad136 = ad139 := (by injection e139); replace hx139_0 := sqh HB hx139_0; have HR139_0 := mA hi139_0; have HC139_0 := mA hl139_0; clear hi139_0 hl139_0; replace p139 := eq_true p139; replace q139 := eq_true q139; have ea_ := Option.some.inj (hx138_0.symm.trans hx139_0)
        injection ea_ with ea_ en_ ec_
        subst ea_; subst ec_; clear en_; have p140 : 0 ≤ (x4_3 : Int) := sqd; have q140 : x4_3 < ((rd_L1 l0_1 x3_2).length : Int) := sqd; obtain ⟨ad140, e140, hx140_0⟩ := Kd.at_int HR139_0.out x4_3 p140 q140
        cases e140
        replace hx140_0 := sqh HB hx140_0; replace p140 := eq_true p140; replace q140 := eq_true q140; go_wp2_with (first | (go_at_call 35; (with_reducible refine (spec_l00In.calls (rd (rd_L1 l0_1 x3_2) x4_3) 0 100000 false _ A22.out).mono ?_); rintro e w' ⟨rfl, ⟨nd, rfl⟩⟩; (try first | exact ⟨rfl, _, World.drewN_drewN _ _ _⟩ | exact ⟨rfl, _, Eq.trans (World.drewN_drewN _ _ _) (congrArg (World.drewN _) (Nat.add_assoc _ _ _))⟩)))
        repeat (go_quiet (first | (go_at_call 35; (with_reducible refine (spec_l00In.calls (rd (rd_L1 l0_1 x3_2) x4_3) 0 100000 false _ A22.out).mono ?_); rintro e w' ⟨rfl, ⟨nd, rfl⟩⟩; (try first | exact ⟨rfl, _, World.drewN_drewN _ _ _⟩ | exact ⟨rfl, _, Eq.trans (World.drewN_drewN _ _ _) (congrArg (World.drewN _) (Nat.add_assoc _ _ _))⟩))); try go_wp2_with (first | (go_at_call 35; (with_reducible refine (spec_l00In.calls (rd (rd_L1 l0_1 x3_2) x4_3) 0 100000 false _ A22.out).mono ?_); rintro e w' ⟨rfl, ⟨nd, rfl⟩⟩; (try first | exact ⟨rfl, _, World.drewN_drewN _ _ _⟩ | exact ⟨rfl, _, Eq.trans (World.drewN_drewN _ _ _) (congrArg (World.drewN _) (Nat.add_assoc _ _ _))⟩))))
        go_ret; exact ⟨zq6, zq1⟩
       subst c23; rw [if_pos rfl] at H; have H' := mA H; clear H; obtain ⟨hcz24_0, hfz24_0⟩ := sqW0 BK40; obtain ⟨hcz24_1, hfz24_1⟩ := sqW1 BK40; have p138 : 0 ≤ (x3_2 : Int) := sqd; have q138 : x3_2 < (l0_1.length : Int) := sqd; obtain ⟨ad138, A138_0, c138_0, e138, hx138_0, hl138_0, hi138_0⟩ := at_L1 HR0_1.out x3_2 p138 q138; obtain rfl : ad136 = ad138 := (by injection e138); replace hx138_0 := sqh HB hx138_0; have HR138_0 := mA hi138_0; have HC138_0 := mA hl138_0; clear hi138_0 hl138_0; replace p138 := eq_true p138; replace q138 := eq_true q138; have p139 : 0 ≤ (x3_2 : Int) := sqd; have q139 : x3_2 < (l0_1.length : Int) := sqd; obtain ⟨ad139, A139_0, c139_0, e139, hx139_0, hl139_0, hi139_0⟩ := at_L1 HR0_1.out x3_2 p139 q139; obtain rfl : ad136 = ad139 := (by injection e139); replace hx139_0 := sqh HB hx139_0; have HR139_0 := mA hi139_0; have HC139_0 := mA hl139_0; clear hi139_0 hl139_0; replace p139 := eq_true p139; replace q139 := eq_true q139; have ea_ := Option.some.inj (hx138_0.symm.trans hx139_0)
       injection ea_ with ea_ en_ ec_
       subst ea_; subst ec_; clear en_; have p140 : 0 ≤ (x4_3 : Int) := sqd; have q140 : x4_3 < ((rd_L1 l0_1 x3_2).length : Int) := sqd; obtain ⟨ad140, e140, hx140_0⟩ := Kd.at_int HR139_0.out x4_3 p140 q140
       cases e140
       replace hx140_0 := sqh HB hx140_0; replace p140 := eq_true p140; replace q140 := eq_true q140; go_wp2_with (first | (go_at_call 35; (with_reducible refine (spec_l00In.calls (rd (rd_L1 l0_1 x3_2) x4_3) 0 100000 true _ A22.out).mono ?_); rintro e w' ⟨rfl, ⟨nd, rfl⟩⟩; (try first | exact ⟨rfl, _, World.drewN_drewN _ _ _⟩ | exact ⟨rfl, _, Eq.trans (World.drewN_drewN _ _ _) (congrArg (World.drewN _) (Nat.add_assoc _ _ _))⟩)))
       repeat (go_quiet (first | (go_at_call 35; (with_reducible refine (spec_l00In.calls (rd (rd_L1 l0_1 x3_2) x4_3) 0 100000 true _ A22.out).mono ?_); rintro e w' ⟨rfl, ⟨nd, rfl⟩⟩; (try first | exact ⟨rfl, _, World.drewN_drewN _ _ _⟩ | exact ⟨rfl, _, Eq.trans (World.drewN_drewN _ _ _) (congrArg (World.drewN _) (Nat.add_assoc _ _ _))⟩))); try go_wp2_with (first | (go_at_call 35; (with_reducible refine (spec_l00In.calls (rd (rd_L1 l0_1 x3_2) x4_3) 0 100000 true _ A22.out).mono ?_); rintro e w' ⟨rfl, ⟨nd, rfl⟩⟩; (try first | exact ⟨rfl, _, World.drewN_drewN _ _ _⟩ | exact ⟨rfl, _, Eq.trans (World.drewN_drewN _ _ _) (congrArg (World.drewN _) (Nat.add_assoc _ _ _))⟩))))
       go_roundg k3
       case measure => have := HJ1.out; have := HK2.out; have := HK3.out; omega
       case rel => exact ⟨(wrap64 (x4_3 + 1)), zq4, H', ⟨zq30 HJ1 HK2 HK3⟩, ⟨zq0 BK40⟩, ⟨zq1⟩⟩

/-! ### spec_l05Few: function 18 -/
mutual
def spec_l05Few.l0 : Nat → Int → Int → Int → List (List Int) → Option (Bool)
  | 0, _, _, _, _ => none
  | k + 1, x3, x4, x41000, x41001 => if x4 < (x41001.length : Int) then (spec_l05Few.l1 k x3 x4 0 x41000 x41001) else (some (decide (x3 ≤ 14)))
def spec_l05Few.l1 : Nat → Int → Int → Int → Int → List (List Int) → Option (Bool)
  | 0, _, _, _, _, _ => none
  | k + 1, x3, x4, x5, x41000, x41001 => if 0 ≤ x4 then (if x4 < (x41001.length : Int) then (if x5 < ((rd_L1 x41001 x4).length : Int) then (if 0 ≤ x5 then (if x41000 = 0 then (none) else (if (Int.tmod (rd (rd_L1 x41001 x4) x5) x41000) = 0 then (spec_l05Few.l1 k x3 x4 (wrap64 (x5 + 1)) x41000 x41001) else (spec_l05Few.l1 k (wrap64 (x3 + 1)) x4 (wrap64 (x5 + 1)) x41000 x41001))) else (none)) else (spec_l05Few.l0 k x3 (wrap64 (x4 + 1)) x41000 x41001)) else (none)) else (none)
end
def spec_l05Few.f (k : Nat) (a0_0 : Int) (l0_1 : List (List Int)) : Option (Bool) := spec_l05Few.l0 k 0 0 a0_0 l0_1
theorem spec_l05Few.mono_l : ∀ k, (∀ y0 y1 y2 y3, LeO (spec_l05Few.l0 k y0 y1 y2 y3) (spec_l05Few.l0 (k + 1) y0 y1 y2 y3)) ∧ (∀ y0 y1 y2 y3 y4, LeO (spec_l05Few.l1 k y0 y1 y2 y3 y4) (spec_l05Few.l1 (k + 1) y0 y1 y2 y3 y4))
  | 0 => ⟨fun _ _ _ _ r h => by simp [spec_l05Few.l0] at h, fun _ _ _ _ _ r h => by simp [spec_l05Few.l1] at h⟩
  | k + 1 => by
   obtain ⟨ih0, ih1⟩ := spec_l05Few.mono_l k
   refine ⟨?_, ?_⟩ <;> intros
   all_goals first | unfold spec_l05Few.l0 | unfold spec_l05Few.l1
   all_goals repeat' first | (with_reducible first | apply ih0 | apply ih1 | exact LeO.refl _ | exact LeO.none _ | refine LeO.ite ?_ ?_ | refine LeO.bind ?_ (fun _ => ?_)) | apply ih0 | apply ih1 | exact LeO.none _ | refine LeO.ite ?_ ?_ | refine LeO.bind ?_ (fun _ => ?_)
theorem spec_l05Few.mono : ∀ a0 a1 k, LeO (spec_l05Few.f k a0 a1) (spec_l05Few.f (k + 1) a0 a1) := by
  intro a0 a1 k
  obtain ⟨ih0, ih1⟩ := spec_l05Few.mono_l k
  unfold spec_l05Few.f
  repeat' first | (with_reducible first | apply ih0 | apply ih1 | exact LeO.refl _ | exact LeO.none _ | refine LeO.ite ?_ ?_ | refine LeO.bind ?_ (fun _ => ?_)) | apply ih0 | apply ih1 | exact LeO.none _ | refine LeO.ite ?_ ?_ | refine LeO.bind ?_ (fun _ => ?_)
set_option maxHeartbeats 8000000 in
set_option maxRecDepth 100000 in
theorem spec_l05Few.calls (k : Nat) (gv0_0_ : Nat) (a0_0 : Int) (A0_1 : Option Addr) (c0_1 : Nat) (l0_1 : List (List Int)) (r : Bool) (w : World) (hbx0_0_ : w.heap[gv0_0_]? = some (.cells #[.int .i64 a0_0, .slice A0_1 l0_1.length c0_1] 28 (0, 0))) (hr0_1 : Kd.C (Kd.slice 2 (Kd.int .i64)) w A0_1 l0_1.length l0_1) (hc0_1 : l0_1.length ≤ c0_1) (h : spec_l05Few.f k a0_0 l0_1 = some r) :
    Calls Try.prog 18 #[.pointer (some ⟨gv0_0_, 0, none⟩)] w fun e w' => e = .returned (.bool r) ∧ Below w.heap.size w w' := by
 have HR0_1 := mA hr0_1; have HC0_1 := mA hc0_1; clear hr0_1 hc0_1; have BK40 := mA hbx0_0_; clear hbx0_0_; have HB := mA (Below.refl w.heap.size w); have H : (spec_l05Few.l0 k 0 0 a0_0 l0_1) = some r := h; clear h; have H' := mA H; clear H; go_enter Try.func18, Try.ntmps18; go_wp2
 repeat (go_quiet (fail); try go_wp2)
 go_loopg [3, 4] k (fun kq v3 v4 w' => ∃ (x3_1 : Int) (x4_1 : Int), v3 = .int .i64 x3_1 ∧ v4 = .int .i64 x4_1 ∧ Aside0 (spec_l05Few.l0 kq x3_1 x4_1 a0_0 l0_1 = some r) ∧ Aside0 (kq ≤ k) ∧ Aside0 (w'.heap[gv0_0_]? = some (.cells #[.int .i64 a0_0, (.slice A0_1 l0_1.length c0_1)] 28 (0, 0))) ∧ Aside0 (Below w.heap.size w w'))
 case atStart => exact ⟨(0), (0), zq4, zq4, H', ⟨Nat.le_refl _⟩, ⟨zq0 BK40⟩, ⟨zq1⟩⟩
 case round =>
  clear H'; obtain ⟨x3_1, x4_1, rfl, rfl, HA, HK1, BK40, HB⟩ := hrel
  cases gk with
  | zero => exact absurd HA.out (by simp [spec_l05Few.l0])
  | succ k1 =>
   have H := HA.out; clear HA; simp only [spec_l05Few.l0] at H; refine sqC (x4_1 < (l0_1.length : Int)) (fun c2 => ?_) (fun c2 => ?_)
   ·rw [if_neg c2] at H; have c2b0 : decide (x4_1 < (l0_1.length : Int)) = false := decide_eq_false c2; clear c2; obtain rfl := Option.some.inj H; obtain ⟨hcz13_0, hfz13_0⟩ := sqW0 BK40; obtain ⟨hcz13_1, hfz13_1⟩ := sqW1 BK40; go_wp2
    repeat (go_quiet (fail); try go_wp2)
    go_ret; exact ⟨zq6, zq1⟩
   rw [if_pos c2] at H; have c2b0 : decide (x4_1 < (l0_1.length : Int)) = true := decide_eq_true c2; clear c2; have H' := mA H; clear H; obtain ⟨hcz3_0, hfz3_0⟩ := sqW0 BK40; obtain ⟨hcz3_1, hfz3_1⟩ := sqW1 BK40; go_wp2
   repeat (go_quiet (fail); try go_wp2)
   go_loopg [3, 5] k1 (fun kq v3 v5 w' => ∃ (x3_2 : Int) (x5_2 : Int), v3 = .int .i64 x3_2 ∧ v5 = .int .i64 x5_2 ∧ Aside0 (spec_l05Few.l1 kq x3_2 x4_1 x5_2 a0_0 l0_1 = some r) ∧ Aside0 (kq ≤ k1) ∧ Aside0 (w'.heap[gv0_0_]? = some (.cells #[.int .i64 a0_0, (.slice A0_1 l0_1.length c0_1)] 28 (0, 0))) ∧ Aside0 (Below w.heap.size w w'))
   case atStart => exact ⟨(x3_1), (0), zq4, zq4, H', ⟨Nat.le_refl _⟩, ⟨zq0 BK40⟩, ⟨zq1⟩⟩
   case round =>
    clear H'; (try clear c2); (try clear c2b0); (try clear hcz3_0); (try clear hcz3_1); (try clear hfz3_0); (try clear hfz3_1); obtain ⟨x3_2, x5_2, rfl, rfl, HA, HK2, BK40, HB⟩ := hrel
    cases gk with
    | zero => exact absurd HA.out (by simp [spec_l05Few.l1])
    | succ k2 =>
     have H := HA.out; clear HA; simp only [spec_l05Few.l1] at H; obtain ⟨c4, H⟩ := sqI H; have c4b0 : decide (0 ≤ x4_1) = true := decide_eq_true c4; clear c4; obtain ⟨c5, H⟩ := sqI H; replace c5 := decide_eq_true c5; refine sqC (x5_2 < ((rd_L1 l0_1 x4_1).length : Int)) (fun c6 => ?_) (fun c6 => ?_)
     ·rw [if_neg c6] at H; have c6b0 : decide (x5_2 < ((rd_L1 l0_1 x4_1).length : Int)) = false := decide_eq_false c6; clear c6; have H' := mA H; clear H; obtain ⟨hcz12_0, hfz12_0⟩ := sqW0 BK40; obtain ⟨hcz12_1, hfz12_1⟩ := sqW1 BK40; have p142 : 0 ≤ (x4_1 : Int) := sqd; have q142 : x4_1 < (l0_1.length : Int) := sqd; obtain ⟨ad142, A142_0, c142_0, e142, hx142_0, hl142_0, hi142_0⟩ := at_L1 HR0_1.out x4_1 p142 q142
      cases e142
      replace hx142_0 := sqh HB hx142_0; have HR142_0 := mA hi142_0; have HC142_0 := mA hl142_0; clear hi142_0 hl142_0; replace p142 := eq_true p142; replace q142 := eq_true q142; go_wp2
      repeat (go_quiet (fail); try go_wp2)
      go_roundg k2
      case measure => have := HK1.out; have := HK2.out; omega
      case rel => exact ⟨(x3_2), (wrap64 (x4_1 + 1)), zq4, zq4, H', ⟨zq16 HK1 HK2⟩, ⟨zq0 BK40⟩, ⟨zq1⟩⟩
     rw [if_pos c6] at H; have c6b0 : decide (x5_2 < ((rd_L1 l0_1 x4_1).length : Int)) = true := decide_eq_true c6; clear c6; obtain ⟨c7, H⟩ := sqI H; replace c7 := decide_eq_true c7; obtain ⟨c8, H⟩ := sqJ H; have c8b0 : (a0_0 == 0) = false := beq_eq_false_iff_ne.mpr c8; have c8b1 : (a0_0 != 0) = true := bne_iff_ne.mpr c8; refine sqC ((Int.tmod (rd (rd_L1 l0_1 x4_1) x5_2) a0_0) = 0) (fun c9 => ?_) (fun c9 => ?_)
     ·rw [if_neg c9] at H; have c9b0 : ((Int.tmod (rd (rd_L1 l0_1 x4_1) x5_2) a0_0) == 0) = false := beq_eq_false_iff_ne.mpr c9; have c9b1 : ((Int.tmod (rd (rd_L1 l0_1 x4_1) x5_2) a0_0) != 0) = true := bne_iff_ne.mpr c9; have H' := mA H; clear H; obtain ⟨hcz11_0, hfz11_0⟩ := sqW0 BK40; obtain ⟨hcz11_1, hfz11_1⟩ := sqW1 BK40; have p142 : 0 ≤ (x4_1 : Int) := sqd; have q142 : x4_1 < (l0_1.length : Int) := sqd; obtain ⟨ad142, A142_0, c142_0, e142, hx142_0, hl142_0, hi142_0⟩ := at_L1 HR0_1.out x4_1 p142 q142
      cases e142
      replace hx142_0 := sqh HB hx142_0; have HR142_0 := mA hi142_0; have HC142_0 := mA hl142_0; clear hi142_0 hl142_0; replace p142 := eq_true p142; replace q142 := eq_true q142; have p143 : 0 ≤ (x4_1 : Int) := sqd; have q143 : x4_1 < (l0_1.length : Int) := sqd; obtain ⟨ad143, A143_0, c143_0, e143, hx143_0, hl143_0, hi143_0⟩ := at_L1 HR0_1.out x4_1 p143 q143; obtain rfl : ad142 = ad143 := (by injection e143); replace hx143_0 := sqh HB hx143_0; have HR143_0 := mA hi143_0; have HC143_0 := mA hl143_0; clear hi143_0 hl143_0; replace p143 := eq_true p143; replace q143 := eq_true q143; have ea_ := Option.some.inj (hx142_0.symm.trans hx143_0)
      injection ea_ with ea_ en_ ec_
      subst ea_; subst ec_; clear en_; have p144 : 0 ≤ (x5_2 : Int) := sqd; have q144 : x5_2 < ((rd_L1 l0_1 x4_1).length : Int) := sqd; obtain ⟨ad144, e144, hx144_0⟩ := Kd.at_int HR143_0.out x5_2 p144 q144
      cases e144
      replace hx144_0 := sqh HB hx144_0; replace p144 := eq_true p144; replace q144 := eq_true q144; go_wp2
      repeat (go_quiet (fail); try go_wp2)
      go_roundg k2
      case measure => have := HK1.out; have := HK2.out; omega
      case rel => exact ⟨(wrap64 (x3_2 + 1)), (wrap64 (x5_2 + 1)), zq4, zq4, H', ⟨zq16 HK1 HK2⟩, ⟨zq0 BK40⟩, ⟨zq1⟩⟩
     rw [if_pos c9] at H; have c9b0 : ((Int.tmod (rd (rd_L1 l0_1 x4_1) x5_2) a0_0) == 0) = true := beq_iff_eq.mpr c9; have c9b1 : ((Int.tmod (rd (rd_L1 l0_1 x4_1) x5_2) a0_0) != 0) = false := bne_eq_false_iff_eq.mpr c9; clear c9; have H' := mA H; clear H; obtain ⟨hcz10_0, hfz10_0⟩ := sqW0 BK40; obtain ⟨hcz10_1, hfz10_1⟩ := sqW1 BK40; have p142 : 0 ≤ (x4_1 : Int) := sqd; have q142 : x4_1 < (l0_1.length : Int) := sqd; obtain ⟨ad142, A142_0, c142_0, e142, hx142_0, hl142_0, hi142_0⟩ := at_L1 HR0_1.out x4_1 p142 q142
     cases e142
     replace hx142_0 := sqh HB hx142_0; have HR142_0 := mA hi142_0; have HC142_0 := mA hl142_0; clear hi142_0 hl142_0; replace p142 := eq_true p142; replace q142 := eq_true q142; have p143 : 0 ≤ (x4_1 : Int) := sqd; have q143 : x4_1 < (l0_1.length : Int) := sqd; obtain ⟨ad143, A143_0, c143_0, e143, hx143_0, hl143_0, hi143_0⟩ := at_L1 HR0_1.out x4_1 p143 q143; obtain rfl : ad142 = ad143 := (by injection e143); replace hx143_0 := sqh HB hx143_0; have HR143_0 := mA hi143_0; have HC143_0 := mA hl143_0; clear hi143_0 hl143_0; replace p143 := eq_true p143; replace q143 := eq_true q143; have ea_ := Option.some.inj (hx142_0.symm.trans hx143_0)
     injection ea_ with ea_ en_ ec_
     subst ea_; subst ec_; clear en_; have p144 : 0 ≤ (x5_2 : Int) := sqd; have q144 : x5_2 < ((rd_L1 l0_1 x4_1).length : Int) := sqd; obtain ⟨ad144, e144, hx144_0⟩ := Kd.at_int HR143_0.out x5_2 p144 q144
     cases e144
     replace hx144_0 := sqh HB hx144_0; replace p144 := eq_true p144; replace q144 := eq_true q144; go_wp2
     repeat (go_quiet (fail); try go_wp2)
     go_roundg k2
     case measure => have := HK1.out; have := HK2.out; omega
     case rel => exact ⟨(x3_2), (wrap64 (x5_2 + 1)), zq4, zq4, H', ⟨zq16 HK1 HK2⟩, ⟨zq0 BK40⟩, ⟨zq1⟩⟩

end Go.Proofs.Ytdcglkdgepdnpaa.PFnExactNearestTable
