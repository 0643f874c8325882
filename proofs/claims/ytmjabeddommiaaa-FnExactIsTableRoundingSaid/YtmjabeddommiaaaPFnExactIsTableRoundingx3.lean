/- Written by this session's program (wip/tool/xprint.py) over the kit's printer. -/
import Derived.Test.YtmjabeddommiaaaPFnExactIsTableRoundingx0
import Derived.Test.YtmjabeddommiaaaPFnExactIsTableRoundingx2
namespace Go.Proofs.Ytmjabeddommiaaa.PFnExactIsTableRounding
open Go.RowKit Go.Proofs.YtmjabeddommiaaaW.PrintWords Go.Proofs.YtmjabeddommiaaaW.PrintLast Go.Proofs.YtmjabeddommiaaaW.PrintMore
attribute [local go_sem] max2_int min2_int max_two min_two max_three min_three max_four min_four   -- for this text's walks alone
set_option linter.unusedVariables false
set_option linter.unusedSimpArgs false

/-! ### spec_l05Is: function 46 -/
mutual
def spec_l05Is.j0 : Nat → Bool → Int → List (List Int) → Option (Bool)
  | 0, _, _, _ => none
  | k + 1, x30, x41000, x41001 => if x30 = true then (some false) else (spec_l05Is.l0 k 0 x41000 x41001)
def spec_l05Is.l0 : Nat → Int → Int → List (List Int) → Option (Bool)
  | 0, _, _, _ => none
  | k + 1, x3, x41000, x41001 => if x3 < (x41001.length : Int) then (if 0 ≤ x3 then (if 0 < (x41001.length : Int) then (if ((rd_L1 x41001 x3).length : Int) = ((rd_L1 x41001 0).length : Int) then (spec_l05Is.l1 k x3 0 x41000 x41001) else (some false)) else (none)) else (none)) else (some true)
def spec_l05Is.l1 : Nat → Int → Int → Int → List (List Int) → Option (Bool)
  | 0, _, _, _, _ => none
  | k + 1, x3, x4, x41000, x41001 => if 0 ≤ x3 then (if x3 < (x41001.length : Int) then (if x4 < ((rd_L1 x41001 x3).length : Int) then (if 0 ≤ x4 then ((spec_l00In.f (rd (rd_L1 x41001 x3) x4) 0 100000).bind fun t141 => (if t141 = true then (spec_l05Is.l1 k x3 (wrap64 (x4 + 1)) x41000 x41001) else (some false))) else (none)) else (spec_l05Is.l0 k (wrap64 (x3 + 1)) x41000 x41001)) else (none)) else (none)
end
def spec_l05Is.f (k : Nat) (a0_0 : Int) (l0_1 : List (List Int)) : Option (Bool) := (spec_l00In.f a0_0 1 1000).bind fun t132 => (if t132 = true then ((spec_l05Side.f (l0_1.length : Int)).bind fun t133 => (if t133 = true then (if 0 < (l0_1.length : Int) then ((spec_l05Side.f ((rd_L1 l0_1 0).length : Int)).bind fun t135 => (spec_l05Is.j0 k (!t135) a0_0 l0_1)) else (none)) else (spec_l05Is.j0 k true a0_0 l0_1))) else (spec_l05Is.j0 k true a0_0 l0_1))
theorem spec_l05Is.mono_l : ∀ k, (∀ y0 y1 y2, LeO (spec_l05Is.j0 k y0 y1 y2) (spec_l05Is.j0 (k + 1) y0 y1 y2)) ∧ (∀ y0 y1 y2, LeO (spec_l05Is.l0 k y0 y1 y2) (spec_l05Is.l0 (k + 1) y0 y1 y2)) ∧ (∀ y0 y1 y2 y3, LeO (spec_l05Is.l1 k y0 y1 y2 y3) (spec_l05Is.l1 (k + 1) y0 y1 y2 y3))
  | 0 => ⟨fun _ _ _ r h => by simp [spec_l05Is.j0] at h, fun _ _ _ r h => by simp [spec_l05Is.l0] at h, fun _ _ _ _ r h => by simp [spec_l05Is.l1] at h⟩
  | k + 1 => by
   obtain ⟨ih0, ih1, ih2⟩ := spec_l05Is.mono_l k
   refine ⟨?_, ?_, ?_⟩ <;> intros
   all_goals first | unfold spec_l05Is.j0 | unfold spec_l05Is.l0 | unfold spec_l05Is.l1
   all_goals repeat' first | (with_reducible first | apply ih0 | apply ih1 | apply ih2 | exact LeO.refl _ | exact LeO.none _ | refine LeO.ite ?_ ?_ | refine LeO.bind ?_ (fun _ => ?_)) | apply ih0 | apply ih1 | apply ih2 | exact LeO.none _ | refine LeO.ite ?_ ?_ | refine LeO.bind ?_ (fun _ => ?_)
theorem spec_l05Is.mono : ∀ a0 a1 k, LeO (spec_l05Is.f k a0 a1) (spec_l05Is.f (k + 1) a0 a1) := by
  intro a0 a1 k
  obtain ⟨ih0, ih1, ih2⟩ := spec_l05Is.mono_l k
  unfold spec_l05Is.f
  repeat' first | (with_reducible first | apply ih0 | apply ih1 | apply ih2 | exact LeO.refl _ | exact LeO.none _ | refine LeO.ite ?_ ?_ | refine LeO.bind ?_ (fun _ => ?_)) | apply ih0 | apply ih1 | apply ih2 | exact LeO.none _ | refine LeO.ite ?_ ?_ | refine LeO.bind ?_ (fun _ => ?_)
set_option maxHeartbeats 8000000 in
set_option maxRecDepth 100000 in
theorem spec_l05Is.calls (k : Nat) (gv0_0_ : Nat) (a0_0 : Int) (A0_1 : Option Addr) (c0_1 : Nat) (l0_1 : List (List Int)) (r : Bool) (w : World) (hbx0_0_ : w.heap[gv0_0_]? = some (.cells #[.int .i64 a0_0, .slice A0_1 l0_1.length c0_1] 29 (0, 0))) (hr0_1 : Kd.C (Kd.slice 2 (Kd.int .i64)) w A0_1 l0_1.length l0_1) (hc0_1 : l0_1.length ≤ c0_1) (h : spec_l05Is.f k a0_0 l0_1 = some r) :
    Calls Try.prog 46 #[.pointer (some ⟨gv0_0_, 0, none⟩)] w fun e w' => e = .returned (.bool r) ∧ Below w.heap.size w w' := by
 have HR0_1 := mA hr0_1; have HC0_1 := mA hc0_1; clear hr0_1 hc0_1; have BK40 := mA hbx0_0_; clear hbx0_0_; have HB := mA (Below.refl w.heap.size w); have H : ((spec_l00In.f a0_0 1 1000).bind fun t132 => (if t132 = true then ((spec_l05Side.f (l0_1.length : Int)).bind fun t133 => (if t133 = true then (if 0 < (l0_1.length : Int) then ((spec_l05Side.f ((rd_L1 l0_1 0).length : Int)).bind fun t135 => (spec_l05Is.j0 k (!t135) a0_0 l0_1)) else (none)) else (spec_l05Is.j0 k true a0_0 l0_1))) else (spec_l05Is.j0 k true a0_0 l0_1))) = some r := h; clear h; have HC2 := mA H; clear H; go_enter Try.func46, Try.ntmps46
 go_upto_region 1 with (fail)
 repeat (go_quiet (fail); go_upto_region 1 with (fail))
 go_cut [30] (fun v30 wc => ∃ (kq : Nat) (x30_1 : Bool), v30 = .bool x30_1 ∧ Aside0 (spec_l05Is.j0 kq x30_1 a0_0 l0_1 = some r) ∧ Aside0 (kq ≤ k) ∧ Aside0 (wc.heap[gv0_0_]? = some (.cells #[.int .i64 a0_0, (.slice A0_1 l0_1.length c0_1)] 29 (0, 0))) ∧ Aside0 (Below w.heap.size w wc))
 case first =>
  have H := HC2.out; clear HC2; obtain ⟨t132, A3, H⟩ := sqB H; refine sqC (t132 = true) (fun c4 => ?_) (fun c4 => ?_)
  ·replace c4 := Bool.eq_false_iff.mpr c4; subst c4; rw [if_neg (show ¬ (false = true) by decide)] at H; have H' := mA H; clear H; have hcz11_0 := sqZ0 BK40; have hcz11_1 := sqZ1 BK40; have hfz11_0 := blk_frozen BK40.out 0; have hfz11_1 := blk_frozen BK40.out 1; go_wp2_with (first | (go_at_call 87; (with_reducible refine (spec_l00In.calls a0_0 1 1000 false _ A3.out).mono ?_); rintro e w' ⟨rfl, ⟨nd, rfl⟩⟩; (try first | exact ⟨rfl, _, World.drewN_drewN _ _ _⟩ | exact ⟨rfl, _, Eq.trans (World.drewN_drewN _ _ _) (congrArg (World.drewN _) (Nat.add_assoc _ _ _))⟩)))
   repeat (go_quiet (first | (go_at_call 87; (with_reducible refine (spec_l00In.calls a0_0 1 1000 false _ A3.out).mono ?_); rintro e w' ⟨rfl, ⟨nd, rfl⟩⟩; (try first | exact ⟨rfl, _, World.drewN_drewN _ _ _⟩ | exact ⟨rfl, _, Eq.trans (World.drewN_drewN _ _ _) (congrArg (World.drewN _) (Nat.add_assoc _ _ _))⟩))); try go_wp2_with (first | (go_at_call 87; (with_reducible refine (spec_l00In.calls a0_0 1 1000 false _ A3.out).mono ?_); rintro e w' ⟨rfl, ⟨nd, rfl⟩⟩; (try first | exact ⟨rfl, _, World.drewN_drewN _ _ _⟩ | exact ⟨rfl, _, Eq.trans (World.drewN_drewN _ _ _) (congrArg (World.drewN _) (Nat.add_assoc _ _ _))⟩))))
   go_meet
   case rel => exact ⟨_, (true), z5, H', ⟨by first | omega | exact Nat.le_refl _⟩, ⟨z1 BK40⟩, ⟨z0⟩⟩
  subst c4; rw [if_pos rfl] at H; obtain ⟨t133, A5, H⟩ := sqB H; refine sqC (t133 = true) (fun c6 => ?_) (fun c6 => ?_)
  ·replace c6 := Bool.eq_false_iff.mpr c6; subst c6; rw [if_neg (show ¬ (false = true) by decide)] at H; have H' := mA H; clear H; have hcz10_0 := sqZ0 BK40; have hcz10_1 := sqZ1 BK40; have hfz10_0 := blk_frozen BK40.out 0; have hfz10_1 := blk_frozen BK40.out 1; go_wp2_with (first | (go_at_call 87; (with_reducible refine (spec_l00In.calls a0_0 1 1000 true _ A3.out).mono ?_); rintro e w' ⟨rfl, ⟨nd, rfl⟩⟩; (try first | exact ⟨rfl, _, World.drewN_drewN _ _ _⟩ | exact ⟨rfl, _, Eq.trans (World.drewN_drewN _ _ _) (congrArg (World.drewN _) (Nat.add_assoc _ _ _))⟩)) | (go_at_call 88; (with_reducible refine (spec_l05Side.calls (l0_1.length : Int) false _ A5.out).mono ?_); rintro e w' ⟨rfl, ⟨nd, rfl⟩⟩; (try first | exact ⟨rfl, _, World.drewN_drewN _ _ _⟩ | exact ⟨rfl, _, Eq.trans (World.drewN_drewN _ _ _) (congrArg (World.drewN _) (Nat.add_assoc _ _ _))⟩)))
   repeat (go_quiet (first | (go_at_call 87; (with_reducible refine (spec_l00In.calls a0_0 1 1000 true _ A3.out).mono ?_); rintro e w' ⟨rfl, ⟨nd, rfl⟩⟩; (try first | exact ⟨rfl, _, World.drewN_drewN _ _ _⟩ | exact ⟨rfl, _, Eq.trans (World.drewN_drewN _ _ _) (congrArg (World.drewN _) (Nat.add_assoc _ _ _))⟩)) | (go_at_call 88; (with_reducible refine (spec_l05Side.calls (l0_1.length : Int) false _ A5.out).mono ?_); rintro e w' ⟨rfl, ⟨nd, rfl⟩⟩; (try first | exact ⟨rfl, _, World.drewN_drewN _ _ _⟩ | exact ⟨rfl, _, Eq.trans (World.drewN_drewN _ _ _) (congrArg (World.drewN _) (Nat.add_assoc _ _ _))⟩))); try go_wp2_with (first | (go_at_call 87; (with_reducible refine (spec_l00In.calls a0_0 1 1000 true _ A3.out).mono ?_); rintro e w' ⟨rfl, ⟨nd, rfl⟩⟩; (try first | exact ⟨rfl, _, World.drewN_drewN _ _ _⟩ | exact ⟨rfl, _, Eq.trans (World.drewN_drewN _ _ _) (congrArg (World.drewN _) (Nat.add_assoc _ _ _))⟩)) | (go_at_call 88; (with_reducible refine (spec_l05Side.calls (l0_1.length : Int) false _ A5.out).mono ?_); rintro e w' ⟨rfl, ⟨nd, rfl⟩⟩; (try first | exact ⟨rfl, _, World.drewN_drewN _ _ _⟩ | exact ⟨rfl, _, Eq.trans (World.drewN_drewN _ _ _) (congrArg (World.drewN _) (Nat.add_assoc _ _ _))⟩))))
   go_meet
   case rel => exact ⟨_, (true), z5, H', ⟨by first | omega | exact Nat.le_refl _⟩, ⟨z1 BK40⟩, ⟨z0⟩⟩
  subst c6; rw [if_pos rfl] at H; obtain ⟨c7, H⟩ := sqI H; have c7b0 := decide_eq_true c7; have c7b1 : decide (0 < l0_1.length) = true := decide_eq_true (by omega); clear c7; (first | rw [c7b0] | (simp only [i64_w, i32_w]; rw [c7b0]) | skip); obtain ⟨t135, A8, H⟩ := sqB H; have H' := mA H; clear H; have hcz9_0 := sqZ0 BK40; have hcz9_1 := sqZ1 BK40; have hfz9_0 := blk_frozen BK40.out 0; have hfz9_1 := blk_frozen BK40.out 1; go_wp2_with (first | (go_at_call 87; (with_reducible refine (spec_l00In.calls a0_0 1 1000 true _ A3.out).mono ?_); rintro e w' ⟨rfl, ⟨nd, rfl⟩⟩; (try first | exact ⟨rfl, _, World.drewN_drewN _ _ _⟩ | exact ⟨rfl, _, Eq.trans (World.drewN_drewN _ _ _) (congrArg (World.drewN _) (Nat.add_assoc _ _ _))⟩)) | (go_at_call 88; (with_reducible refine (spec_l05Side.calls (l0_1.length : Int) true _ A5.out).mono ?_); rintro e w' ⟨rfl, ⟨nd, rfl⟩⟩; (try first | exact ⟨rfl, _, World.drewN_drewN _ _ _⟩ | exact ⟨rfl, _, Eq.trans (World.drewN_drewN _ _ _) (congrArg (World.drewN _) (Nat.add_assoc _ _ _))⟩); have p134 : 0 ≤ (0 : Int) := (by omega); have q134 : 0 < (l0_1.length : Int) := sqd; obtain ⟨ad134, A134_0, c134_0, e134, hx134_0, hl134_0, hi134_0⟩ := at_L1 HR0_1.out 0 p134 q134; cases e134; have qi134 : (0 < l0_1.length) = True := eq_true (by omega); (try rw [show ((0 : Int)).toNat = 0 from rfl] at hx134_0); (try rw [Addr.add_zero'] at hx134_0); replace hx134_0 := sqh HB hx134_0; have HR134_0 := mA hi134_0; have HC134_0 := mA hl134_0; clear hi134_0 hl134_0; replace p134 := eq_true p134; replace q134 := eq_true q134) | (go_at_call 88; (with_reducible refine (spec_l05Side.calls ((rd_L1 l0_1 0).length : Int) t135 _ A8.out).mono ?_); rintro e w' ⟨rfl, ⟨nd, rfl⟩⟩; (try first | exact ⟨rfl, _, World.drewN_drewN _ _ _⟩ | exact ⟨rfl, _, Eq.trans (World.drewN_drewN _ _ _) (congrArg (World.drewN _) (Nat.add_assoc _ _ _))⟩)))
  repeat (go_quiet (first | (go_at_call 87; (with_reducible refine (spec_l00In.calls a0_0 1 1000 true _ A3.out).mono ?_); rintro e w' ⟨rfl, ⟨nd, rfl⟩⟩; (try first | exact ⟨rfl, _, World.drewN_drewN _ _ _⟩ | exact ⟨rfl, _, Eq.trans (World.drewN_drewN _ _ _) (congrArg (World.drewN _) (Nat.add_assoc _ _ _))⟩)) | (go_at_call 88; (with_reducible refine (spec_l05Side.calls (l0_1.length : Int) true _ A5.out).mono ?_); rintro e w' ⟨rfl, ⟨nd, rfl⟩⟩; (try first | exact ⟨rfl, _, World.drewN_drewN _ _ _⟩ | exact ⟨rfl, _, Eq.trans (World.drewN_drewN _ _ _) (congrArg (World.drewN _) (Nat.add_assoc _ _ _))⟩); have p134 : 0 ≤ (0 : Int) := (by omega); have q134 : 0 < (l0_1.length : Int) := sqd; obtain ⟨ad134, A134_0, c134_0, e134, hx134_0, hl134_0, hi134_0⟩ := at_L1 HR0_1.out 0 p134 q134; cases e134; have qi134 : (0 < l0_1.length) = True := eq_true (by omega); (try rw [show ((0 : Int)).toNat = 0 from rfl] at hx134_0); (try rw [Addr.add_zero'] at hx134_0); replace hx134_0 := sqh HB hx134_0; have HR134_0 := mA hi134_0; have HC134_0 := mA hl134_0; clear hi134_0 hl134_0; replace p134 := eq_true p134; replace q134 := eq_true q134) | (go_at_call 88; (with_reducible refine (spec_l05Side.calls ((rd_L1 l0_1 0).length : Int) t135 _ A8.out).mono ?_); rintro e w' ⟨rfl, ⟨nd, rfl⟩⟩; (try first | exact ⟨rfl, _, World.drewN_drewN _ _ _⟩ | exact ⟨rfl, _, Eq.trans (World.drewN_drewN _ _ _) (congrArg (World.drewN _) (Nat.add_assoc _ _ _))⟩))); try go_wp2_with (first | (go_at_call 87; (with_reducible refine (spec_l00In.calls a0_0 1 1000 true _ A3.out).mono ?_); rintro e w' ⟨rfl, ⟨nd, rfl⟩⟩; (try first | exact ⟨rfl, _, World.drewN_drewN _ _ _⟩ | exact ⟨rfl, _, Eq.trans (World.drewN_drewN _ _ _) (congrArg (World.drewN _) (Nat.add_assoc _ _ _))⟩)) | (go_at_call 88; (with_reducible refine (spec_l05Side.calls (l0_1.length : Int) true _ A5.out).mono ?_); rintro e w' ⟨rfl, ⟨nd, rfl⟩⟩; (try first | exact ⟨rfl, _, World.drewN_drewN _ _ _⟩ | exact ⟨rfl, _, Eq.trans (World.drewN_drewN _ _ _) (congrArg (World.drewN _) (Nat.add_assoc _ _ _))⟩); have p134 : 0 ≤ (0 : Int) := (by omega); have q134 : 0 < (l0_1.length : Int) := sqd; obtain ⟨ad134, A134_0, c134_0, e134, hx134_0, hl134_0, hi134_0⟩ := at_L1 HR0_1.out 0 p134 q134; cases e134; have qi134 : (0 < l0_1.length) = True := eq_true (by omega); (try rw [show ((0 : Int)).toNat = 0 from rfl] at hx134_0); (try rw [Addr.add_zero'] at hx134_0); replace hx134_0 := sqh HB hx134_0; have HR134_0 := mA hi134_0; have HC134_0 := mA hl134_0; clear hi134_0 hl134_0; replace p134 := eq_true p134; replace q134 := eq_true q134) | (go_at_call 88; (with_reducible refine (spec_l05Side.calls ((rd_L1 l0_1 0).length : Int) t135 _ A8.out).mono ?_); rintro e w' ⟨rfl, ⟨nd, rfl⟩⟩; (try first | exact ⟨rfl, _, World.drewN_drewN _ _ _⟩ | exact ⟨rfl, _, Eq.trans (World.drewN_drewN _ _ _) (congrArg (World.drewN _) (Nat.add_assoc _ _ _))⟩))))
  go_meet
  case rel => exact ⟨_, (!t135), z5, H', ⟨by first | omega | exact Nat.le_refl _⟩, ⟨z1 BK40⟩, ⟨z0⟩⟩
 case rest =>
  clear HC2; (try clear c1); (try clear p1); (try clear q1); (try clear hx1); (try clear qi1); (try clear p2); (try clear c4); (try clear c6); (try clear c7); (try clear c7b0); (try clear c7b1); (try clear hcz10_0); (try clear hcz10_1); (try clear hcz11_0); (try clear hcz11_1); (try clear hcz9_0); (try clear hcz9_1); (try clear hfz10_0); (try clear hfz10_1); (try clear hfz11_0); (try clear hfz11_1); (try clear hfz9_0); (try clear hfz9_1); (try clear hx134_0); (try clear p134); (try clear q134); obtain ⟨kq, x30_1, rfl, HA, HJ1, BK40, HB⟩ := hcut
  cases kq with
  | zero => exact absurd HA.out (by simp [spec_l05Is.j0])
  | succ kj1 =>
   have H := HA.out; clear HA; simp only [spec_l05Is.j0] at H; by_cases c12 : x30_1 = true
   ·subst c12; rw [if_pos rfl] at H; obtain rfl := Option.some.inj H; go_wp2
    repeat (go_quiet (fail); try go_wp2)
    go_ret; exact ⟨z6, z0⟩
   replace c12 := Bool.eq_false_iff.mpr c12; subst c12; rw [if_neg (show ¬ (false = true) by decide)] at H; have H' := mA H; clear H; go_wp2
   repeat (go_quiet (fail); try go_wp2)
   go_loopg [3] kj1 (fun kq v3 w' => ∃ (x3_2 : Int), v3 = .int .i64 x3_2 ∧ Aside0 (spec_l05Is.l0 kq x3_2 a0_0 l0_1 = some r) ∧ Aside0 (kq ≤ kj1) ∧ Aside0 (w'.heap[gv0_0_]? = some (.cells #[.int .i64 a0_0, (.slice A0_1 l0_1.length c0_1)] 29 (0, 0))) ∧ Aside0 (Below w.heap.size w w'))
   case atStart => exact ⟨(0), z5, H', ⟨Nat.le_refl _⟩, ⟨z1 BK40⟩, ⟨z0⟩⟩
   case round =>
    clear H'; (try clear c1); (try clear p1); (try clear q1); (try clear hx1); (try clear qi1); (try clear p2); (try clear c4); (try clear c6); (try clear c7); (try clear c7b0); (try clear c7b1); (try clear c12); (try clear hcz10_0); (try clear hcz10_1); (try clear hcz11_0); (try clear hcz11_1); (try clear hcz9_0); (try clear hcz9_1); (try clear hfz10_0); (try clear hfz10_1); (try clear hfz11_0); (try clear hfz11_1); (try clear hfz9_0); (try clear hfz9_1); (try clear hx134_0); (try clear p1); (try clear p134); (try clear p2); (try clear q1); (try clear q134); obtain ⟨x3_2, rfl, HA, HK2, BK40, HB⟩ := hrel
    cases gk with
    | zero => exact absurd HA.out (by simp [spec_l05Is.l0])
    | succ k2 =>
     have H := HA.out; clear HA; simp only [spec_l05Is.l0] at H; refine sqC (x3_2 < (l0_1.length : Int)) (fun c13 => ?_) (fun c13 => ?_)
     ·rw [if_neg c13] at H; replace c13 := decide_eq_false c13; obtain rfl := Option.some.inj H; have hcz28_0 := sqZ0 BK40; have hcz28_1 := sqZ1 BK40; have hfz28_0 := blk_frozen BK40.out 0; have hfz28_1 := blk_frozen BK40.out 1; go_wp2
      repeat (go_quiet (fail); try go_wp2)
      go_ret; exact ⟨z6, z0⟩
     rw [if_pos c13] at H; replace c13 := decide_eq_true c13; obtain ⟨c14, H⟩ := sqI H; replace c14 := decide_eq_true c14; obtain ⟨c15, H⟩ := sqI H; have c15b0 := decide_eq_true c15; have c15b1 : decide (0 < l0_1.length) = true := decide_eq_true (by omega); clear c15; refine sqC (((rd_L1 l0_1 x3_2).length : Int) = ((rd_L1 l0_1 0).length : Int)) (fun c16 => ?_) (fun c16 => ?_)
     ·rw [if_neg c16] at H; have c16b0 : (((rd_L1 l0_1 x3_2).length : Int) == ((rd_L1 l0_1 0).length : Int)) = false := beq_eq_false_iff_ne.mpr c16; have c16b1 : (((rd_L1 l0_1 x3_2).length : Int) != ((rd_L1 l0_1 0).length : Int)) = true := bne_iff_ne.mpr c16
      have c16b2 : ((rd_L1 l0_1 x3_2).length == (rd_L1 l0_1 0).length) = false := by first | simpa using c16 | (simp at c16 ⊢; omega)
      obtain rfl := Option.some.inj H; have hcz27_0 := sqZ0 BK40; have hcz27_1 := sqZ1 BK40; have hfz27_0 := blk_frozen BK40.out 0; have hfz27_1 := blk_frozen BK40.out 1; have p136 : 0 ≤ (x3_2 : Int) := sqd; have q136 : x3_2 < (l0_1.length : Int) := sqd; obtain ⟨ad136, A136_0, c136_0, e136, hx136_0, hl136_0, hi136_0⟩ := at_L1 HR0_1.out x3_2 p136 q136
      cases e136
      replace hx136_0 := sqh HB hx136_0; have HR136_0 := mA hi136_0; have HC136_0 := mA hl136_0; clear hi136_0 hl136_0; replace p136 := eq_true p136; replace q136 := eq_true q136; have p137 : 0 ≤ (0 : Int) := (by omega); have q137 : 0 < (l0_1.length : Int) := sqd; obtain ⟨ad137, A137_0, c137_0, e137, hx137_0, hl137_0, hi137_0⟩ := at_L1 HR0_1.out 0 p137 q137; obtain rfl : ad136 = ad137 := (by injection e137); have qi137 : (0 < l0_1.length) = True := eq_true (by omega); (try rw [show ((0 : Int)).toNat = 0 from rfl] at hx137_0); (try rw [Addr.add_zero'] at hx137_0); replace hx137_0 := sqh HB hx137_0; have HR137_0 := mA hi137_0; have HC137_0 := mA hl137_0; clear hi137_0 hl137_0; replace p137 := eq_true p137; replace q137 := eq_true q137; go_wp2
      repeat (go_quiet (fail); try go_wp2)
      go_ret; exact ⟨z6, z0⟩
     rw [if_pos c16] at H; have c16b0 : (((rd_L1 l0_1 x3_2).length : Int) == ((rd_L1 l0_1 0).length : Int)) = true := beq_iff_eq.mpr c16; have c16b1 : (((rd_L1 l0_1 x3_2).length : Int) != ((rd_L1 l0_1 0).length : Int)) = false := bne_eq_false_iff_eq.mpr c16
     have c16b2 : ((rd_L1 l0_1 x3_2).length == (rd_L1 l0_1 0).length) = true := by first | simpa using c16 | (simp at c16 ⊢; omega)
     clear c16; have H' := mA H; clear H; have hcz17_0 := sqZ0 BK40; have hcz17_1 := sqZ1 BK40; have hfz17_0 := blk_frozen BK40.out 0; have hfz17_1 := blk_frozen BK40.out 1; have p136 : 0 ≤ (x3_2 : Int) := sqd; have q136 : x3_2 < (l0_1.length : Int) := sqd; obtain ⟨ad136, A136_0, c136_0, e136, hx136_0, hl136_0, hi136_0⟩ := at_L1 HR0_1.out x3_2 p136 q136
     cases e136
     replace hx136_0 := sqh HB hx136_0; have HR136_0 := mA hi136_0; have HC136_0 := mA hl136_0; clear hi136_0 hl136_0; replace p136 := eq_true p136; replace q136 := eq_true q136; have p137 : 0 ≤ (0 : Int) := (by omega); have q137 : 0 < (l0_1.length : Int) := sqd; obtain ⟨ad137, A137_0, c137_0, e137, hx137_0, hl137_0, hi137_0⟩ := at_L1 HR0_1.out 0 p137 q137; obtain rfl : ad136 = ad137 := (by injection e137); have qi137 : (0 < l0_1.length) = True := eq_true (by omega); (try rw [show ((0 : Int)).toNat = 0 from rfl] at hx137_0); (try rw [Addr.add_zero'] at hx137_0); replace hx137_0 := sqh HB hx137_0; have HR137_0 := mA hi137_0; have HC137_0 := mA hl137_0; clear hi137_0 hl137_0; replace p137 := eq_true p137; replace q137 := eq_true q137; go_wp2
     repeat (go_quiet (fail); try go_wp2)
     go_loopg [4] k2 (fun kq v4 w' => ∃ (x4_3 : Int), v4 = .int .i64 x4_3 ∧ Aside0 (spec_l05Is.l1 kq x3_2 x4_3 a0_0 l0_1 = some r) ∧ Aside0 (kq ≤ k2) ∧ Aside0 (w'.heap[gv0_0_]? = some (.cells #[.int .i64 a0_0, (.slice (some ad136) l0_1.length c0_1)] 29 (0, 0))) ∧ Aside0 (Below w.heap.size w w'))
     case atStart => exact ⟨(0), z5, H', ⟨Nat.le_refl _⟩, ⟨z1 BK40⟩, ⟨z0⟩⟩
     case round =>
      clear H'; (try clear c1); (try clear p1); (try clear q1); (try clear hx1); (try clear qi1); (try clear p2); (try clear c4); (try clear c6); (try clear c7); (try clear c7b0); (try clear c7b1); (try clear c12); (try clear c13); (try clear c13b0); (try clear p13); (try clear q13); (try clear hx13); (try clear qi13); (try clear c14); (try clear c14b0); (try clear c15); (try clear c15b0); (try clear c15b1); (try clear c16); (try clear c16b0); (try clear c16b1); (try clear c16b2); (try clear hcz10_0); (try clear hcz10_1); (try clear hcz11_0); (try clear hcz11_1); (try clear hcz17_0); (try clear hcz17_1); (try clear hcz9_0); (try clear hcz9_1); (try clear hfz10_0); (try clear hfz10_1); (try clear hfz11_0); (try clear hfz11_1); (try clear hfz17_0); (try clear hfz17_1); (try clear hfz9_0); (try clear hfz9_1); (try clear hx134_0); (try clear hx136_0); (try clear hx137_0); (try clear p1); (try clear p134); (try clear p136); (try clear p137); (try clear p2); (try clear q1); (try clear q134); (try clear q136); (try clear q137); obtain ⟨x4_3, rfl, HA, HK3, BK40, HB⟩ := hrel
      cases gk with
      | zero => exact absurd HA.out (by simp [spec_l05Is.l1])
      | succ k3 =>
       have H := HA.out; clear HA; simp only [spec_l05Is.l1] at H; obtain ⟨c18, H⟩ := sqI H; replace c18 := decide_eq_true c18; obtain ⟨c19, H⟩ := sqI H; replace c19 := decide_eq_true c19; refine sqC (x4_3 < ((rd_L1 l0_1 x3_2).length : Int)) (fun c20 => ?_) (fun c20 => ?_)
       ·rw [if_neg c20] at H; replace c20 := decide_eq_false c20; have H' := mA H; clear H; have hcz26_0 := sqZ0 BK40; have hcz26_1 := sqZ1 BK40; have hfz26_0 := blk_frozen BK40.out 0; have hfz26_1 := blk_frozen BK40.out 1; have p138 : 0 ≤ (x3_2 : Int) := sqd; have q138 : x3_2 < (l0_1.length : Int) := sqd; obtain ⟨ad138, A138_0, c138_0, e138, hx138_0, hl138_0, hi138_0⟩ := at_L1 HR0_1.out x3_2 p138 q138; obtain rfl : ad136 = ad138 := (by injection e138); replace hx138_0 := sqh HB hx138_0; have HR138_0 := mA hi138_0; have HC138_0 := mA hl138_0; clear hi138_0 hl138_0; replace p138 := eq_true p138; replace q138 := eq_true q138; go_wp2
        repeat (go_quiet (fail); try go_wp2)
        go_roundg k3
        case measure => have := HJ1.out; have := HK2.out; have := HK3.out; omega
        case rel => exact ⟨(wrap64 (x3_2 + 1)), z5, H', ⟨by have := HJ1.out; have := HK2.out; have := HK3.out; omega⟩, ⟨z1 BK40⟩, ⟨z0⟩⟩
       rw [if_pos c20] at H; replace c20 := decide_eq_true c20; obtain ⟨c21, H⟩ := sqI H; replace c21 := decide_eq_true c21; obtain ⟨t141, A22, H⟩ := sqB H; refine sqC (t141 = true) (fun c23 => ?_) (fun c23 => ?_)
       ·replace c23 := Bool.eq_false_iff.mpr c23; subst c23; rw [if_neg (show ¬ (false = true) by decide)] at H; obtain rfl := Option.some.inj H; have hcz25_0 := sqZ0 BK40; have hcz25_1 := sqZ1 BK40; have hfz25_0 := blk_frozen BK40.out 0; have hfz25_1 := blk_frozen BK40.out 1; have p138 : 0 ≤ (x3_2 : Int) := sqd; have q138 : x3_2 < (l0_1.length : Int) := sqd; obtain ⟨ad138, A138_0, c138_0, e138, hx138_0, hl138_0, hi138_0⟩ := at_L1 HR0_1.out x3_2 p138 q138; obtain rfl : ad136 = ad138 := (by injection e138); replace hx138_0 := sqh HB hx138_0; have HR138_0 := mA hi138_0; have HC138_0 := mA hl138_0; clear hi138_0 hl138_0; replace p138 := eq_true p138; replace q138 := eq_true q138; have p139 : 0 ≤ (x3_2 : Int) := sqd; have q139 : x3_2 < (l0_1.length : Int) := sqd; obtain ⟨ad139, A139_0, c139_0, e139, hx139_0, hl139_0, hi139_0⟩ := at_L1 HR0_1.out x3_2 p139 q139; obtain rfl : ad136 = ad139 := (by injection e139); replace hx139_0 := sqh HB hx139_0; have HR139_0 := mA hi139_0; have HC139_0 := mA hl139_0; clear hi139_0 hl139_0; replace p139 := eq_true p139; replace q139 := eq_true q139; have ea_ := Option.some.inj (hx138_0.symm.trans hx139_0)
        injection ea_ with ea_ en_ ec_
        subst ea_; subst ec_; clear en_; have p140 : 0 ≤ (x4_3 : Int) := sqd; have q140 : x4_3 < ((rd_L1 l0_1 x3_2).length : Int) := sqd; obtain ⟨ad140, e140, hx140_0⟩ := Kd.at_int HR139_0.out x4_3 p140 q140
        cases e140
        replace hx140_0 := sqh HB hx140_0; replace p140 := eq_true p140; replace q140 := eq_true q140; go_wp2_with (first | (go_at_call 87; (with_reducible refine (spec_l00In.calls (rd (rd_L1 l0_1 x3_2) x4_3) 0 100000 false _ A22.out).mono ?_); rintro e w' ⟨rfl, ⟨nd, rfl⟩⟩; (try first | exact ⟨rfl, _, World.drewN_drewN _ _ _⟩ | exact ⟨rfl, _, Eq.trans (World.drewN_drewN _ _ _) (congrArg (World.drewN _) (Nat.add_assoc _ _ _))⟩)))
        repeat (go_quiet (first | (go_at_call 87; (with_reducible refine (spec_l00In.calls (rd (rd_L1 l0_1 x3_2) x4_3) 0 100000 false _ A22.out).mono ?_); rintro e w' ⟨rfl, ⟨nd, rfl⟩⟩; (try first | exact ⟨rfl, _, World.drewN_drewN _ _ _⟩ | exact ⟨rfl, _, Eq.trans (World.drewN_drewN _ _ _) (congrArg (World.drewN _) (Nat.add_assoc _ _ _))⟩))); try go_wp2_with (first | (go_at_call 87; (with_reducible refine (spec_l00In.calls (rd (rd_L1 l0_1 x3_2) x4_3) 0 100000 false _ A22.out).mono ?_); rintro e w' ⟨rfl, ⟨nd, rfl⟩⟩; (try first | exact ⟨rfl, _, World.drewN_drewN _ _ _⟩ | exact ⟨rfl, _, Eq.trans (World.drewN_drewN _ _ _) (congrArg (World.drewN _) (Nat.add_assoc _ _ _))⟩))))
        go_ret; exact ⟨z6, z0⟩
       subst c23; rw [if_pos rfl] at H; have H' := mA H; clear H; have hcz24_0 := sqZ0 BK40; have hcz24_1 := sqZ1 BK40; have hfz24_0 := blk_frozen BK40.out 0; have hfz24_1 := blk_frozen BK40.out 1; have p138 : 0 ≤ (x3_2 : Int) := sqd; have q138 : x3_2 < (l0_1.length : Int) := sqd; obtain ⟨ad138, A138_0, c138_0, e138, hx138_0, hl138_0, hi138_0⟩ := at_L1 HR0_1.out x3_2 p138 q138; obtain rfl : ad136 = ad138 := (by injection e138); replace hx138_0 := sqh HB hx138_0; have HR138_0 := mA hi138_0; have HC138_0 := mA hl138_0; clear hi138_0 hl138_0; replace p138 := eq_true p138; replace q138 := eq_true q138; have p139 : 0 ≤ (x3_2 : Int) := sqd; have q139 : x3_2 < (l0_1.length : Int) := sqd; obtain ⟨ad139, A139_0, c139_0, e139, hx139_0, hl139_0, hi139_0⟩ := at_L1 HR0_1.out x3_2 p139 q139; obtain rfl : ad136 = ad139 := (by injection e139); replace hx139_0 := sqh HB hx139_0; have HR139_0 := mA hi139_0; have HC139_0 := mA hl139_0; clear hi139_0 hl139_0; replace p139 := eq_true p139; replace q139 := eq_true q139; have ea_ := Option.some.inj (hx138_0.symm.trans hx139_0)
       injection ea_ with ea_ en_ ec_
       subst ea_; subst ec_; clear en_; have p140 : 0 ≤ (x4_3 : Int) := sqd; have q140 : x4_3 < ((rd_L1 l0_1 x3_2).length : Int) := sqd; obtain ⟨ad140, e140, hx140_0⟩ := Kd.at_int HR139_0.out x4_3 p140 q140
       cases e140
       replace hx140_0 := sqh HB hx140_0; replace p140 := eq_true p140; replace q140 := eq_true q140; go_wp2_with (first | (go_at_call 87; (with_reducible refine (spec_l00In.calls (rd (rd_L1 l0_1 x3_2) x4_3) 0 100000 true _ A22.out).mono ?_); rintro e w' ⟨rfl, ⟨nd, rfl⟩⟩; (try first | exact ⟨rfl, _, World.drewN_drewN _ _ _⟩ | exact ⟨rfl, _, Eq.trans (World.drewN_drewN _ _ _) (congrArg (World.drewN _) (Nat.add_assoc _ _ _))⟩)))
       repeat (go_quiet (first | (go_at_call 87; (with_reducible refine (spec_l00In.calls (rd (rd_L1 l0_1 x3_2) x4_3) 0 100000 true _ A22.out).mono ?_); rintro e w' ⟨rfl, ⟨nd, rfl⟩⟩; (try first | exact ⟨rfl, _, World.drewN_drewN _ _ _⟩ | exact ⟨rfl, _, Eq.trans (World.drewN_drewN _ _ _) (congrArg (World.drewN _) (Nat.add_assoc _ _ _))⟩))); try go_wp2_with (first | (go_at_call 87; (with_reducible refine (spec_l00In.calls (rd (rd_L1 l0_1 x3_2) x4_3) 0 100000 true _ A22.out).mono ?_); rintro e w' ⟨rfl, ⟨nd, rfl⟩⟩; (try first | exact ⟨rfl, _, World.drewN_drewN _ _ _⟩ | exact ⟨rfl, _, Eq.trans (World.drewN_drewN _ _ _) (congrArg (World.drewN _) (Nat.add_assoc _ _ _))⟩))))
       go_roundg k3
       case measure => have := HJ1.out; have := HK2.out; have := HK3.out; omega
       case rel => exact ⟨(wrap64 (x4_3 + 1)), z5, H', ⟨by have := HJ1.out; have := HK2.out; have := HK3.out; omega⟩, ⟨z1 BK40⟩, ⟨z0⟩⟩

/-! ### spec_l01Sum: function 61 -/
def spec_l01Sum.l0 : Nat → List Int → Int → Int → Option (Int)
  | 0, _, _, _ => none
  | k + 1, x0, x3, x4 => if x4 < (x0.length : Int) then (if 0 ≤ x4 then (spec_l01Sum.l0 k x0 (wrap64 (x3 + (rd x0 x4))) (wrap64 (x4 + 1))) else (none)) else (some x3)
def spec_l01Sum.f (k : Nat) (l0 : List Int) : Option (Int) := spec_l01Sum.l0 k l0 0 0
theorem spec_l01Sum.mono_l : ∀ k, (∀ y0 y1 y2, LeO (spec_l01Sum.l0 k y0 y1 y2) (spec_l01Sum.l0 (k + 1) y0 y1 y2))
  | 0 => fun _ _ _ r h => by simp [spec_l01Sum.l0] at h
  | k + 1 => by
   have ih0 := spec_l01Sum.mono_l k
   intros
   unfold spec_l01Sum.l0
   all_goals repeat' first | (with_reducible first | apply ih0 | exact LeO.refl _ | exact LeO.none _ | refine LeO.ite ?_ ?_ | refine LeO.bind ?_ (fun _ => ?_)) | apply ih0 | exact LeO.none _ | refine LeO.ite ?_ ?_ | refine LeO.bind ?_ (fun _ => ?_)
theorem spec_l01Sum.mono : ∀ a0 k, LeO (spec_l01Sum.f k a0) (spec_l01Sum.f (k + 1) a0) := by
  intro a0 k
  have ih0 := spec_l01Sum.mono_l k
  unfold spec_l01Sum.f
  repeat' first | (with_reducible first | apply ih0 | exact LeO.refl _ | exact LeO.none _ | refine LeO.ite ?_ ?_ | refine LeO.bind ?_ (fun _ => ?_)) | apply ih0 | exact LeO.none _ | refine LeO.ite ?_ ?_ | refine LeO.bind ?_ (fun _ => ?_)
set_option maxHeartbeats 8000000 in
set_option maxRecDepth 100000 in
theorem spec_l01Sum.calls (k : Nat) (A0 : Option Addr) (c0 : Nat) (l0 : List Int) (r : Int) (w : World) (hr0 : Kd.C (Kd.int .i64) w A0 l0.length l0) (hc0 : l0.length ≤ c0) (h : spec_l01Sum.f k l0 = some r) :
    Calls Try.prog 61 #[.slice A0 l0.length c0] w fun e w' => e = .returned (.int .i64 r) ∧ Drawn0 w w' := by
 have HR0 := mA hr0; have HC0 := mA hc0; clear hr0 hc0; have H : (spec_l01Sum.l0 k l0 0 0) = some r := h; clear h; have H' := mA H; clear H; go_enter Try.func61, Try.ntmps61; go_wp2; go_loopg [3, 4] k (fun kq v3 v4 w' => ∃ (x3_1 : Int) (x4_1 : Int), v3 = .int .i64 x3_1 ∧ v4 = .int .i64 x4_1 ∧ Aside0 (spec_l01Sum.l0 kq l0 x3_1 x4_1 = some r) ∧ Aside0 (kq ≤ k) ∧ Drawn0 w w')
 case atStart => exact ⟨(0), (0), z5, z5, H', ⟨Nat.le_refl _⟩, z10⟩
 case round =>
  clear H'; obtain ⟨x3_1, x4_1, rfl, rfl, HA, HK1, ⟨m1, rfl⟩⟩ := hrel
  cases gk with
  | zero => exact absurd HA.out (by simp [spec_l01Sum.l0])
  | succ k1 =>
   have H := HA.out; clear HA; simp only [spec_l01Sum.l0] at H; refine sqC (x4_1 < (l0.length : Int)) (fun c2 => ?_) (fun c2 => ?_)
   ·rw [if_neg c2] at H; replace c2 := decide_eq_false c2; obtain rfl := Option.some.inj H; go_wp2; go_ret; exact ⟨z5, z10⟩
   rw [if_pos c2] at H; replace c2 := decide_eq_true c2; obtain ⟨c3, H⟩ := sqI H; replace c3 := decide_eq_true c3; have H' := mA H; clear H; have p142 : 0 ≤ (x4_1 : Int) := sqd; have q142 : x4_1 < (l0.length : Int) := sqd; obtain ⟨ad142, e142, hx142_0⟩ := Kd.at_int HR0.out x4_1 p142 q142
   cases e142
   replace p142 := eq_true p142; replace q142 := eq_true q142; go_wp2; go_roundg k1
   case measure => have := HK1.out; omega
   case rel => exact ⟨(wrap64 (x3_1 + (rd l0 x4_1))), (wrap64 (x4_1 + 1)), z5, z5, H', ⟨by have := HK1.out; omega⟩, z10⟩

/-! ### spec_l05Across: function 47 -/
def spec_l05Across.l0 : Nat → List (List Int) → List Int → Int → Option (List Int)
  | 0, _, _, _ => none
  | k + 1, x0, x3, x4 => if x4 < (x0.length : Int) then (if 0 ≤ x4 then ((spec_l01Sum.f k (rd_L1 x0 x4)).bind fun t147 => (if x3.length < 17592186044416 then (spec_l05Across.l0 k x0 (x3 ++ [t147]) (wrap64 (x4 + 1))) else (none))) else (none)) else (some x3)
def spec_l05Across.f (k : Nat) (l0 : List (List Int)) : Option (List Int) := spec_l05Across.l0 k l0 (([] : List Int)) 0
theorem spec_l05Across.mono_l : ∀ k, (∀ y0 y1 y2, LeO (spec_l05Across.l0 k y0 y1 y2) (spec_l05Across.l0 (k + 1) y0 y1 y2))
  | 0 => fun _ _ _ r h => by simp [spec_l05Across.l0] at h
  | k + 1 => by
   have ih0 := spec_l05Across.mono_l k
   intros
   unfold spec_l05Across.l0
   all_goals repeat' first | (with_reducible first | apply ih0 | apply spec_l01Sum.mono | exact LeO.refl _ | exact LeO.none _ | refine LeO.ite ?_ ?_ | refine LeO.bind ?_ (fun _ => ?_)) | apply ih0 | apply spec_l01Sum.mono | exact LeO.none _ | refine LeO.ite ?_ ?_ | refine LeO.bind ?_ (fun _ => ?_)
theorem spec_l05Across.mono : ∀ a0 k, LeO (spec_l05Across.f k a0) (spec_l05Across.f (k + 1) a0) := by
  intro a0 k
  have ih0 := spec_l05Across.mono_l k
  unfold spec_l05Across.f
  repeat' first | (with_reducible first | apply ih0 | apply spec_l01Sum.mono | exact LeO.refl _ | exact LeO.none _ | refine LeO.ite ?_ ?_ | refine LeO.bind ?_ (fun _ => ?_)) | apply ih0 | apply spec_l01Sum.mono | exact LeO.none _ | refine LeO.ite ?_ ?_ | refine LeO.bind ?_ (fun _ => ?_)
set_option maxHeartbeats 8000000 in
set_option maxRecDepth 100000 in
theorem spec_l05Across.calls (k : Nat) (A0 : Option Addr) (c0 : Nat) (l0 : List (List Int)) (r : List Int) (w : World) (hr0 : Kd.C (Kd.slice 2 (Kd.int .i64)) w A0 l0.length l0) (hc0 : l0.length ≤ c0) (h : spec_l05Across.f k l0 = some r) :
    Calls Try.prog 47 #[.slice A0 l0.length c0] w fun e w' => ∃ v0_ : Value, e = .returned (v0_) ∧ Kd.R (Kd.int .i64) 2 w' w.heap.size (fun _ => True) v0_ r ∧ Below w.heap.size w w' := by
 have HR0 := mA hr0; have HC0 := mA hc0; clear hr0 hc0; have HB := mA (Below.refl w.heap.size w); have H : (spec_l05Across.l0 k l0 (([] : List Int)) 0) = some r := h; clear h; obtain ⟨y143, hy143⟩ : ∃ y_ : List Int, y_ = (([] : List Int)) := ⟨_, rfl⟩
 replace H : (spec_l05Across.l0 k l0 y143 0) = some r := by first | (rw [hy143]; with_reducible exact H) | (have H2_ := (Option.bind_some _ _).symm.trans H; rw [hy143]; with_reducible exact H2_) | (have H2_ := (Option.bind_some _ _).symm.trans H; with_reducible exact H2_) | with_reducible exact H | (rw [hy143]; exact H) | exact H
 have Ny143 := mA hy143; clear hy143; have H' := mA H; clear H; go_enter Try.func47, Try.ntmps47; go_wp2_with (first | ((with_reducible refine gate_dst (N := 5) rfl ?_); refine Kd.R_lit (Kd.int .i64) _ 2 ?hg (N := 5) ?hd (xs := ([] : List Int)) (inner := []) (ok := fun _ => True) (okp := fun _ => True) ?hr ?hp (fun _ hk => hk) trivial (Below.refl _ _) (Nat.le_refl _) (by simp) ?_; (case hd => rfl); (case hg => rfl); (case hr => exact z12); (case hp => exact (Reps.none _ _)); intro v144 w2 ho3 hb hg_ hnew_; clear hg_ hnew_; (first | rw [← Ny143.out] at ho3 | (simp only [Int.reduceToNat] at ho3; rw [← Ny143.out] at ho3)); have HO145 := mA (Kd.R_lower ho3 (below_size z4)); replace HB := mA (below_step z4 hb); clear hb ho3)); go_loopg [3, 4] k (fun kq v3 v4 w' => ∃ (x3_1 : List Int) (x4_1 : Int), v4 = .int .i64 x4_1 ∧ Aside0 (spec_l05Across.l0 kq l0 x3_1 x4_1 = some r) ∧ Aside0 (kq ≤ k) ∧ Aside0 (Kd.R (Kd.int .i64) 2 w' w.heap.size (fun _ => True) v3 x3_1) ∧ Aside0 (Below w.heap.size w w'))
 case atStart => exact ⟨(y143), (0), z5, H', ⟨Nat.le_refl _⟩, ⟨z3 HO145⟩, ⟨z4⟩⟩
 case round =>
  clear H'; (try clear p2); obtain ⟨x3_1, x4_1, rfl, HA, HK1, HO_3, HB⟩ := hrel
  cases gk with
  | zero => exact absurd HA.out (by simp [spec_l05Across.l0])
  | succ k1 =>
   have H := HA.out; clear HA; simp only [spec_l05Across.l0] at H; refine sqC (x4_1 < (l0.length : Int)) (fun c4 => ?_) (fun c4 => ?_)
   ·rw [if_neg c4] at H; replace c4 := decide_eq_false c4; obtain rfl := Option.some.inj H; go_wp2; go_ret; exact ⟨_, z6, z3 HO_3, z4⟩
   rw [if_pos c4] at H; replace c4 := decide_eq_true c4; obtain ⟨c5, H⟩ := sqI H; replace c5 := decide_eq_true c5; obtain ⟨t147, A6, H⟩ := sqB H; obtain ⟨c7, H⟩ := sqI H; have LMc7 := mA c7; clear c7; obtain ⟨y148, hy148⟩ : ∃ y_ : List Int, y_ = (x3_1 ++ [t147]) := ⟨_, rfl⟩
   replace H : (spec_l05Across.l0 k1 l0 y148 (wrap64 (x4_1 + 1))) = some r := by first | (rw [hy148]; with_reducible exact H) | (have H2_ := (Option.bind_some _ _).symm.trans H; rw [hy148]; with_reducible exact H2_) | (have H2_ := (Option.bind_some _ _).symm.trans H; with_reducible exact H2_) | with_reducible exact H | (rw [hy148]; exact H) | exact H
   have Ny148 := mA hy148; clear hy148; have H' := mA H; clear H; have p146 : 0 ≤ (x4_1 : Int) := sqd; have q146 : x4_1 < (l0.length : Int) := sqd; obtain ⟨ad146, A146_0, c146_0, e146, hx146_0, hl146_0, hi146_0⟩ := at_L1 HR0.out x4_1 p146 q146
   cases e146
   replace hx146_0 := sqh HB hx146_0; have HR146_0 := mA hi146_0; have HC146_0 := mA hl146_0; clear hi146_0 hl146_0; replace p146 := eq_true p146; replace q146 := eq_true q146; go_wp2_with (first | (refine sqG 61 (some 17) Try.func61 #[.slice A146_0 (rd_L1 l0 x4_1).length c146_0] (h := ?_); (with_reducible refine (spec_l01Sum.calls k1 _ _ (rd_L1 l0 x4_1) t147 _ ?s1 ?s2 A6.out).mono ?_); (case s1 => repeat (first | exact (Kd.C_below HR146_0.out HB.out) | (with_reducible refine Kd.C_alloc ?_ _) | (with_reducible refine Kd.C_drewN ?_ _) | (with_reducible refine Kd.C_drew ?_))); (case s2 => exact HC146_0.out); rintro e w' ⟨rfl, ⟨nd, rfl⟩⟩; refine ⟨_, rfl, ?_⟩) | ((with_reducible refine gate_builtin (b := .append) (xs := #[.tmp 12, .tmp 18]) rfl ?_); at_builtin; refine Kd.R_append (Kd.int .i64) (w0 := w) w.heap.size rfl (.tmp 12) (.tmp 18) 26 2 (.int .i64 0) 8 rfl Try.underlying26 info2 rfl (by decide) (by omega) u3 x3_1 t147 [.int .i64 t147] (fun _ => True) (fun _ => False) rfl rfl ?aP (fun _ hk => hk.elim) ?aF ?aO ?aB ?aS ?aL ?_; (case aP => exact rfl); (case aB => exact z4); (case aF => exact (fun _ _ => trivial)); (case aO => exact (z3 HO_3)); (case aS => exact (below_size z4)); (case aL => have := LMc7.out; omega); intro v149 w8 ho hb hg hat; rw [← Ny148.out] at ho; replace HB := mA (hb); have HO150 := mA (ho); clear HO_3 ho hb hg hat)); go_roundg k1
   case measure => have := HK1.out; omega
   case rel => exact ⟨(y148), (wrap64 (x4_1 + 1)), z5, H', ⟨by have := HK1.out; omega⟩, ⟨z3 HO150⟩, ⟨z4⟩⟩

end Go.Proofs.Ytmjabeddommiaaa.PFnExactIsTableRounding
