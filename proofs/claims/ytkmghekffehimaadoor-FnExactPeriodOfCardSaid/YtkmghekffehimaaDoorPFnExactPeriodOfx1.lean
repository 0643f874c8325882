/- Written by this session's program (wip/tool/xprint.py) over the kit's printer. -/
import Derived.Test.YtkmghekffehimaaDoorPFnExactPeriodOfx0
namespace Go.Proofs.YtkmghekffehimaaDoor.PFnExactPeriodOf
open Go.RowKit Go.Proofs.YtkmghekffehimaaDoorW.PrintWords Go.Proofs.YtkmghekffehimaaDoorW.PrintLast Go.Proofs.YtkmghekffehimaaDoorW.PrintMore
attribute [local go_sem] max2_int min2_int max_two min_two max_three min_three max_four min_four   -- for this text's walks alone
set_option linter.unusedVariables false
set_option linter.unusedSimpArgs false

/-! ### spec_l07Is: function 32 -/
def spec_l07Is.l0 : Nat → ByteArray → Int → Option (Bool)
  | 0, _, _ => none
  | k + 1, x0, x3 => if x3 < (x0.size : Int) then (if 0 ≤ x3 then (if (bt x0 x3) = 97 then (spec_l07Is.l0 k x0 (wrap64 (x3 + 1))) else (if (bt x0 x3) = 98 then (spec_l07Is.l0 k x0 (wrap64 (x3 + 1))) else (some false))) else (none)) else (some (decide ((x0.size : Int) ≤ 120)))
def spec_l07Is.f (k : Nat) (a0 : ByteArray) : Option (Bool) := spec_l07Is.l0 k a0 0
theorem spec_l07Is.mono_l : ∀ k, (∀ y0 y1, LeO (spec_l07Is.l0 k y0 y1) (spec_l07Is.l0 (k + 1) y0 y1))
  | 0 => fun _ _ r h => by simp [spec_l07Is.l0] at h
  | k + 1 => by
   have ih0 := spec_l07Is.mono_l k
   intros
   unfold spec_l07Is.l0
   all_goals repeat' first | (with_reducible first | apply ih0 | exact LeO.refl _ | exact LeO.none _ | refine LeO.ite ?_ ?_ | refine LeO.bind ?_ (fun _ => ?_)) | apply ih0 | exact LeO.none _ | refine LeO.ite ?_ ?_ | refine LeO.bind ?_ (fun _ => ?_)
theorem spec_l07Is.mono : ∀ a0 k, LeO (spec_l07Is.f k a0) (spec_l07Is.f (k + 1) a0) := by
  intro a0 k
  have ih0 := spec_l07Is.mono_l k
  unfold spec_l07Is.f
  repeat' first | (with_reducible first | apply ih0 | exact LeO.refl _ | exact LeO.none _ | refine LeO.ite ?_ ?_ | refine LeO.bind ?_ (fun _ => ?_)) | apply ih0 | exact LeO.none _ | refine LeO.ite ?_ ?_ | refine LeO.bind ?_ (fun _ => ?_)
set_option maxHeartbeats 8000000 in
set_option maxRecDepth 100000 in
theorem spec_l07Is.calls (k : Nat) (a0 : ByteArray) (r : Bool) (w : World) (h : spec_l07Is.f k a0 = some r) :
    Calls Tryd.prog 32 #[.string a0] w fun e w' => e = .returned (.bool r) ∧ Drawn0 w w' := by
 have H : (spec_l07Is.l0 k a0 0) = some r := h; clear h; have H' := mA H; clear H; go_enter Tryd.func32, Tryd.ntmps32; go_wp2; go_loopg [3] k (fun kq v3 w' => ∃ (x3_1 : Int), v3 = .int .i64 x3_1 ∧ Aside0 (spec_l07Is.l0 kq a0 x3_1 = some r) ∧ Aside0 (kq ≤ k) ∧ Drawn0 w w')
 case atStart => exact ⟨(0), z1, H', ⟨Nat.le_refl _⟩, z0⟩
 case round =>
  clear H'; obtain ⟨x3_1, rfl, HA, HK1, ⟨m1, rfl⟩⟩ := hrel
  cases gk with
  | zero => exact absurd HA.out (by simp [spec_l07Is.l0])
  | succ k1 =>
   have H := HA.out; clear HA; simp only [spec_l07Is.l0] at H; refine sqC (x3_1 < (a0.size : Int)) (fun c2 => ?_) (fun c2 => ?_)
   ·rw [if_neg c2] at H; replace c2 := decide_eq_false c2; obtain rfl := Option.some.inj H; go_wp2; go_ret; exact ⟨z1, z0⟩
   rw [if_pos c2] at H; replace c2 := decide_eq_true c2; obtain ⟨c3, H⟩ := sqI H; replace c3 := decide_eq_true c3; by_cases c5 : (bt a0 x3_1) = 97
   ·rw [if_pos c5] at H; have c5b0 : ((bt a0 x3_1) == 97) = true := beq_iff_eq.mpr c5; have c5b1 : ((bt a0 x3_1) != 97) = false := bne_eq_false_iff_eq.mpr c5; clear c5; have H' := mA H; clear H; have p4 : 0 ≤ (x3_1 : Int) := sqd; have q4 : x3_1 < (a0.size : Int) := sqd; have hx4 := bt_at a0 x3_1; replace p4 := eq_true p4; replace q4 := eq_true q4; go_wp2; go_roundg k1
    case measure => have := HK1.out; omega
    case rel => exact ⟨(wrap64 (x3_1 + 1)), z1, H', ⟨by have := HK1.out; omega⟩, z0⟩
   rw [if_neg c5] at H; have c5b0 : ((bt a0 x3_1) == 97) = false := beq_eq_false_iff_ne.mpr c5; have c5b1 : ((bt a0 x3_1) != 97) = true := bne_iff_ne.mpr c5; refine sqC ((bt a0 x3_1) = 98) (fun c7 => ?_) (fun c7 => ?_)
   ·rw [if_neg c7] at H; have c7b0 : ((bt a0 x3_1) == 98) = false := beq_eq_false_iff_ne.mpr c7; have c7b1 : ((bt a0 x3_1) != 98) = true := bne_iff_ne.mpr c7; obtain rfl := Option.some.inj H; have p4 : 0 ≤ (x3_1 : Int) := sqd; have q4 : x3_1 < (a0.size : Int) := sqd; have hx4 := bt_at a0 x3_1; replace p4 := eq_true p4; replace q4 := eq_true q4; have p6 : 0 ≤ (x3_1 : Int) := sqd; have q6 : x3_1 < (a0.size : Int) := sqd; have hx6 := bt_at a0 x3_1; replace p6 := eq_true p6; replace q6 := eq_true q6; go_wp2; go_ret; exact ⟨z1, z0⟩
   rw [if_pos c7] at H; have c7b0 : ((bt a0 x3_1) == 98) = true := beq_iff_eq.mpr c7; have c7b1 : ((bt a0 x3_1) != 98) = false := bne_eq_false_iff_eq.mpr c7; clear c7; have H' := mA H; clear H; have p4 : 0 ≤ (x3_1 : Int) := sqd; have q4 : x3_1 < (a0.size : Int) := sqd; have hx4 := bt_at a0 x3_1; replace p4 := eq_true p4; replace q4 := eq_true q4; have p6 : 0 ≤ (x3_1 : Int) := sqd; have q6 : x3_1 < (a0.size : Int) := sqd; have hx6 := bt_at a0 x3_1; replace p6 := eq_true p6; replace q6 := eq_true q6; go_wp2; go_roundg k1
   case measure => have := HK1.out; omega
   case rel => exact ⟨(wrap64 (x3_1 + 1)), z1, H', ⟨by have := HK1.out; omega⟩, z0⟩

/-! ### spec_l00Max: function 40 -/
def spec_l00Max.f (a0 : Int) (a1 : Int) : Option (Int) := if a0 > a1 then (some a0) else (some a1)
set_option maxHeartbeats 8000000 in
set_option maxRecDepth 100000 in
theorem spec_l00Max.calls (a0 : Int) (a1 : Int) (r : Int) (w : World) (h : spec_l00Max.f a0 a1 = some r) :
    Calls Tryd.prog 40 #[.int .i64 a0, .int .i64 a1] w fun e w' => e = .returned (.int .i64 r) ∧ Drawn0 w w' := by
 have H : (if a0 > a1 then (some a0) else (some a1)) = some r := h; clear h; by_cases c3 : a0 > a1
 ·rw [if_pos c3] at H; replace c3 := decide_eq_true c3; obtain rfl := Option.some.inj H; go_enter Tryd.func40, Tryd.ntmps40; go_wp2; go_ret; exact ⟨z1, z0⟩
 rw [if_neg c3] at H; replace c3 := decide_eq_false c3; obtain rfl := Option.some.inj H; go_enter Tryd.func40, Tryd.ntmps40; go_wp2; go_ret; exact ⟨z1, z0⟩

/-! ### spec_l07Period: function 34 -/
def spec_l07Period.l0 : Nat → ByteArray → Int → Option (Int)
  | 0, _, _ => none
  | k + 1, x0, x3 => if x3 < (x0.size : Int) then (if 0 ≤ x3 then (if x3 ≤ (x0.size : Int) then (if 0 ≤ (wrap64 ((x0.size : Int) - x3)) then (if (wrap64 ((x0.size : Int) - x3)) ≤ (x0.size : Int) then (if (x0.extract (x3 : Int).toNat x0.size).toList = (x0.extract 0 ((wrap64 ((x0.size : Int) - x3)) : Int).toNat).toList then (some x3) else (spec_l07Period.l0 k x0 (wrap64 (x3 + 1)))) else (none)) else (none)) else (none)) else (none)) else ((spec_l00Max.f 1 (x0.size : Int)).bind fun t101 => (some t101))
def spec_l07Period.f (k : Nat) (a0 : ByteArray) : Option (Int) := spec_l07Period.l0 k a0 1
theorem spec_l07Period.mono_l : ∀ k, (∀ y0 y1, LeO (spec_l07Period.l0 k y0 y1) (spec_l07Period.l0 (k + 1) y0 y1))
  | 0 => fun _ _ r h => by simp [spec_l07Period.l0] at h
  | k + 1 => by
   have ih0 := spec_l07Period.mono_l k
   intros
   unfold spec_l07Period.l0
   all_goals repeat' first | (with_reducible first | apply ih0 | exact LeO.refl _ | exact LeO.none _ | refine LeO.ite ?_ ?_ | refine LeO.bind ?_ (fun _ => ?_)) | apply ih0 | exact LeO.none _ | refine LeO.ite ?_ ?_ | refine LeO.bind ?_ (fun _ => ?_)
theorem spec_l07Period.mono : ∀ a0 k, LeO (spec_l07Period.f k a0) (spec_l07Period.f (k + 1) a0) := by
  intro a0 k
  have ih0 := spec_l07Period.mono_l k
  unfold spec_l07Period.f
  repeat' first | (with_reducible first | apply ih0 | exact LeO.refl _ | exact LeO.none _ | refine LeO.ite ?_ ?_ | refine LeO.bind ?_ (fun _ => ?_)) | apply ih0 | exact LeO.none _ | refine LeO.ite ?_ ?_ | refine LeO.bind ?_ (fun _ => ?_)
set_option maxHeartbeats 8000000 in
set_option maxRecDepth 100000 in
theorem spec_l07Period.calls (k : Nat) (a0 : ByteArray) (r : Int) (w : World) (h : spec_l07Period.f k a0 = some r) :
    Calls Tryd.prog 34 #[.string a0] w fun e w' => e = .returned (.int .i64 r) ∧ Drawn0 w w' := by
 have H : (spec_l07Period.l0 k a0 1) = some r := h; clear h; have H' := mA H; clear H; go_enter Tryd.func34, Tryd.ntmps34; go_wp2
 repeat (go_quiet (fail); try go_wp2)
 go_loopg [3] k (fun kq v3 w' => ∃ (x3_1 : Int), v3 = .int .i64 x3_1 ∧ Aside0 (spec_l07Period.l0 kq a0 x3_1 = some r) ∧ Aside0 (kq ≤ k) ∧ Drawn0 w w')
 case atStart => exact ⟨(1), z1, H', ⟨Nat.le_refl _⟩, z0⟩
 case round =>
  clear H'; obtain ⟨x3_1, rfl, HA, HK1, ⟨m1, rfl⟩⟩ := hrel
  cases gk with
  | zero => exact absurd HA.out (by simp [spec_l07Period.l0])
  | succ k1 =>
   have H := HA.out; clear HA; simp only [spec_l07Period.l0] at H; refine sqC (x3_1 < (a0.size : Int)) (fun c2 => ?_) (fun c2 => ?_)
   ·rw [if_neg c2] at H; replace c2 := decide_eq_false c2; obtain ⟨t101, A9, H⟩ := sqB H; obtain rfl := Option.some.inj H; go_wp2_with (first | (go_at_call 40; (with_reducible refine (spec_l00Max.calls 1 (a0.size : Int) t101 _ A9.out).mono ?_); rintro e w' ⟨rfl, ⟨nd, rfl⟩⟩; (try first | exact ⟨rfl, _, World.drewN_drewN _ _ _⟩ | exact ⟨rfl, _, Eq.trans (World.drewN_drewN _ _ _) (congrArg (World.drewN _) (Nat.add_assoc _ _ _))⟩)))
    repeat (go_quiet (first | (go_at_call 40; (with_reducible refine (spec_l00Max.calls 1 (a0.size : Int) t101 _ A9.out).mono ?_); rintro e w' ⟨rfl, ⟨nd, rfl⟩⟩; (try first | exact ⟨rfl, _, World.drewN_drewN _ _ _⟩ | exact ⟨rfl, _, Eq.trans (World.drewN_drewN _ _ _) (congrArg (World.drewN _) (Nat.add_assoc _ _ _))⟩))); try go_wp2_with (first | (go_at_call 40; (with_reducible refine (spec_l00Max.calls 1 (a0.size : Int) t101 _ A9.out).mono ?_); rintro e w' ⟨rfl, ⟨nd, rfl⟩⟩; (try first | exact ⟨rfl, _, World.drewN_drewN _ _ _⟩ | exact ⟨rfl, _, Eq.trans (World.drewN_drewN _ _ _) (congrArg (World.drewN _) (Nat.add_assoc _ _ _))⟩))))
    go_ret; exact ⟨z1, z0⟩
   rw [if_pos c2] at H; replace c2 := decide_eq_true c2; obtain ⟨c3, H⟩ := sqI H; have c3b0 := eq_true c3; have c3b1 := decide_eq_true c3; clear c3; obtain ⟨c4, H⟩ := sqI H; have c4b0 := eq_true c4; have c4b1 := decide_eq_true c4; clear c4; obtain ⟨ji5, hji5⟩ : ∃ j_ : Int, (wrap64 ((a0.size : Int) - x3_1)) = j_ := ⟨_, rfl⟩
   replace H : (if 0 ≤ (ji5) then (if (ji5) ≤ (a0.size : Int) then (if (a0.extract (x3_1 : Int).toNat a0.size).toList = (a0.extract 0 ((ji5) : Int).toNat).toList then (some x3_1) else (spec_l07Period.l0 k1 a0 (wrap64 (x3_1 + 1)))) else (none)) else (none)) = some r := by first | (rw [hji5] at H; exact H) | (simp only [hji5] at H ⊢; exact H)
   have hji5w : (IntKind.i64.wrap ((a0.size : Int) - x3_1)) = ji5 := (i64_w _).trans hji5; obtain ⟨c6, H⟩ := sqI H; have c6b0 := eq_true c6; have c6b1 := decide_eq_true c6; clear c6; obtain ⟨c7, H⟩ := sqI H; have c7b0 := eq_true c7; have c7b1 := decide_eq_true c7; clear c7; by_cases c8 : (a0.extract (x3_1 : Int).toNat a0.size).toList = (a0.extract 0 ((ji5) : Int).toNat).toList
   ·rw [if_pos c8] at H; have c8b0 : ((a0.extract (x3_1 : Int).toNat a0.size).toList == (a0.extract 0 ((ji5) : Int).toNat).toList) = true := beq_iff_eq.mpr c8; have c8b1 : ((a0.extract (x3_1 : Int).toNat a0.size).toList != (a0.extract 0 ((ji5) : Int).toNat).toList) = false := bne_eq_false_iff_eq.mpr c8; clear c8; obtain rfl := Option.some.inj H; go_wp2
    repeat (go_quiet (fail); try go_wp2)
    go_ret; exact ⟨by first | rfl | (simp; done) | (simp only [← hji5] <;> (first | rfl | simp)) | (simp [*]; done), z0⟩
   rw [if_neg c8] at H; have c8b0 : ((a0.extract (x3_1 : Int).toNat a0.size).toList == (a0.extract 0 ((ji5) : Int).toNat).toList) = false := beq_eq_false_iff_ne.mpr c8; have c8b1 : ((a0.extract (x3_1 : Int).toNat a0.size).toList != (a0.extract 0 ((ji5) : Int).toNat).toList) = true := bne_iff_ne.mpr c8; have H' := mA H; clear H; go_wp2
   repeat (go_quiet (fail); try go_wp2)
   go_roundg k1
   case measure => have := HK1.out; omega
   case rel => exact ⟨(wrap64 (x3_1 + 1)), z1, H', ⟨by have := HK1.out; omega⟩, z0⟩

/-! ### spec_PeriodOf: function 13 -/
def spec_PeriodOf.f (k : Nat) (a0 : ByteArray) : Option (Int × Bool) := (spec_l07Is.f k a0).bind fun t102 => (if t102 = true then ((spec_l07Period.f k a0).bind fun t103 => (some (t103, true))) else (some (0, false)))
theorem spec_PeriodOf.mono : ∀ a0 k, LeO (spec_PeriodOf.f k a0) (spec_PeriodOf.f (k + 1) a0) := by
  intro a0 k
  unfold spec_PeriodOf.f
  repeat' first | (with_reducible first | apply spec_l07Is.mono | apply spec_l07Period.mono | exact LeO.refl _ | exact LeO.none _ | refine LeO.ite ?_ ?_ | refine LeO.bind ?_ (fun _ => ?_)) | apply spec_l07Is.mono | apply spec_l07Period.mono | exact LeO.none _ | refine LeO.ite ?_ ?_ | refine LeO.bind ?_ (fun _ => ?_)
set_option maxHeartbeats 8000000 in
set_option maxRecDepth 100000 in
theorem spec_PeriodOf.calls (k : Nat) (a0 : ByteArray) (r1 : Int) (r2 : Bool) (w : World) (h : spec_PeriodOf.f k a0 = some (r1, r2)) :
    Calls Tryd.prog 13 #[.string a0] w fun e w' => e = .returned (.tuple #[.int .i64 r1, .bool r2]) ∧ Drawn0 w w' := by
 have H : ((spec_l07Is.f k a0).bind fun t102 => (if t102 = true then ((spec_l07Period.f k a0).bind fun t103 => (some (t103, true))) else (some (0, false)))) = some (r1, r2) := h; clear h; obtain ⟨t102, A2, H⟩ := sqB H; refine sqC (t102 = true) (fun c3 => ?_) (fun c3 => ?_)
 ·replace c3 := Bool.eq_false_iff.mpr c3; subst c3; rw [if_neg (show ¬ (false = true) by decide)] at H; simp only [Option.some.injEq, Prod.mk.injEq] at H; obtain ⟨rfl, rfl⟩ := H; go_enter Tryd.func13, Tryd.ntmps13; go_wp2_with (first | (refine sqG 32 (some 5) Tryd.func32 #[.string a0] (h := ?_); (with_reducible refine (spec_l07Is.calls k a0 false _ A2.out).mono ?_); rintro e w' ⟨rfl, ⟨nd, rfl⟩⟩; refine ⟨_, rfl, ?_⟩)); go_ret2; exact ⟨z1, z0⟩
 subst c3; rw [if_pos rfl] at H; obtain ⟨t103, A4, H⟩ := sqB H; simp only [Option.some.injEq, Prod.mk.injEq] at H; obtain ⟨rfl, rfl⟩ := H; go_enter Tryd.func13, Tryd.ntmps13; go_wp2_with (first | (refine sqG 32 (some 5) Tryd.func32 #[.string a0] (h := ?_); (with_reducible refine (spec_l07Is.calls k a0 true _ A2.out).mono ?_); rintro e w' ⟨rfl, ⟨nd, rfl⟩⟩; refine ⟨_, rfl, ?_⟩) | (refine sqG 34 (some 8) Tryd.func34 #[.string a0] (h := ?_); (with_reducible refine (spec_l07Period.calls k a0 t103 _ A4.out).mono ?_); rintro e w' ⟨rfl, ⟨nd, rfl⟩⟩; refine ⟨_, rfl, ?_⟩)); go_ret2; exact ⟨z1, z0⟩

/-! ### strings_trimLeftByte: function 53 -/
def strings_trimLeftByte.l0 : Nat → ByteArray → Int → Option (ByteArray)
  | 0, _, _ => none
  | k + 1, x0, x1 => if (x0.size : Int) > 0 then (if 0 < (x0.size : Int) then (if (bt x0 0) = x1 then (if 1 ≤ (x0.size : Int) then (strings_trimLeftByte.l0 k (x0.extract 1 x0.size) x1) else (none)) else (some x0)) else (none)) else (some x0)
def strings_trimLeftByte.f (k : Nat) (a0 : ByteArray) (a1 : Int) : Option (ByteArray) := strings_trimLeftByte.l0 k a0 a1
theorem strings_trimLeftByte.mono_l : ∀ k, (∀ y0 y1, LeO (strings_trimLeftByte.l0 k y0 y1) (strings_trimLeftByte.l0 (k + 1) y0 y1))
  | 0 => fun _ _ r h => by simp [strings_trimLeftByte.l0] at h
  | k + 1 => by
   have ih0 := strings_trimLeftByte.mono_l k
   intros
   unfold strings_trimLeftByte.l0
   all_goals repeat' first | (with_reducible first | apply ih0 | exact LeO.refl _ | exact LeO.none _ | refine LeO.ite ?_ ?_ | refine LeO.bind ?_ (fun _ => ?_)) | apply ih0 | exact LeO.none _ | refine LeO.ite ?_ ?_ | refine LeO.bind ?_ (fun _ => ?_)
theorem strings_trimLeftByte.mono : ∀ a0 a1 k, LeO (strings_trimLeftByte.f k a0 a1) (strings_trimLeftByte.f (k + 1) a0 a1) := by
  intro a0 a1 k
  have ih0 := strings_trimLeftByte.mono_l k
  unfold strings_trimLeftByte.f
  repeat' first | (with_reducible first | apply ih0 | exact LeO.refl _ | exact LeO.none _ | refine LeO.ite ?_ ?_ | refine LeO.bind ?_ (fun _ => ?_)) | apply ih0 | exact LeO.none _ | refine LeO.ite ?_ ?_ | refine LeO.bind ?_ (fun _ => ?_)
set_option maxHeartbeats 8000000 in
set_option maxRecDepth 100000 in
theorem strings_trimLeftByte.calls (k : Nat) (a0 : ByteArray) (a1 : Int) (r : ByteArray) (w : World) (h : strings_trimLeftByte.f k a0 a1 = some r) :
    Calls Tryd.prog 53 #[.string a0, .int .u8 a1] w fun e w' => e = .returned (.string r) ∧ Drawn0 w w' := by
 have H : (strings_trimLeftByte.l0 k a0 a1) = some r := h; clear h; have H' := mA H; clear H; go_enter Tryd.func53, Tryd.ntmps53; go_wp2; go_loopg [0] k (fun kq v0 w' => ∃ (x0_1 : ByteArray), v0 = .string x0_1 ∧ Aside0 (strings_trimLeftByte.l0 kq x0_1 a1 = some r) ∧ Aside0 (kq ≤ k) ∧ Drawn0 w w')
 case atStart => exact ⟨(a0), z1, H', ⟨Nat.le_refl _⟩, z0⟩
 case round =>
  clear H'; (try clear p2); obtain ⟨x0_1, rfl, HA, HK1, ⟨m1, rfl⟩⟩ := hrel
  cases gk with
  | zero => exact absurd HA.out (by simp [strings_trimLeftByte.l0])
  | succ k1 =>
   have H := HA.out; clear HA; simp only [strings_trimLeftByte.l0] at H; refine sqC ((x0_1.size : Int) > 0) (fun c3 => ?_) (fun c3 => ?_)
   ·rw [if_neg c3] at H; have c3b0 := decide_eq_false c3; have c3b1 : decide (0 < x0_1.size) = false := decide_eq_false (by omega); clear c3; obtain rfl := Option.some.inj H; go_wp2; go_ret; exact ⟨z1, z0⟩
   rw [if_pos c3] at H; have c3b0 := decide_eq_true c3; have c3b1 : decide (0 < x0_1.size) = true := decide_eq_true (by omega); clear c3; obtain ⟨c4, H⟩ := sqI H; have c4b0 := decide_eq_true c4; have c4b1 : decide (0 < x0_1.size) = true := decide_eq_true (by omega); clear c4; refine sqC ((bt x0_1 0) = a1) (fun c6 => ?_) (fun c6 => ?_)
   ·rw [if_neg c6] at H; have c6b0 : ((bt x0_1 0) == a1) = false := beq_eq_false_iff_ne.mpr c6; have c6b1 : ((bt x0_1 0) != a1) = true := bne_iff_ne.mpr c6; obtain rfl := Option.some.inj H; have p5 : 0 ≤ (0 : Int) := (by omega); have q5 : 0 < x0_1.size := (by have : (0 : Int) < (x0_1.size : Int) := sqd; omega); have hx5 : ∀ h : 0 < x0_1.size, ((x0_1[0]'h).toNat : Int) = bt x0_1 0 := bt_at x0_1 0; clear p5; have qi5 : (0 < (x0_1.size : Int)) = True := eq_true (sqd); replace q5 := eq_true q5; go_wp2; go_ret; exact ⟨z1, z0⟩
   rw [if_pos c6] at H; have c6b0 : ((bt x0_1 0) == a1) = true := beq_iff_eq.mpr c6; have c6b1 : ((bt x0_1 0) != a1) = false := bne_eq_false_iff_eq.mpr c6; clear c6; obtain ⟨c7, H⟩ := sqI H; have c7b0 := eq_true c7; have c7b1 := decide_eq_true c7; clear c7; have H' := mA H; clear H; have p5 : 0 ≤ (0 : Int) := (by omega); have q5 : 0 < x0_1.size := (by have : (0 : Int) < (x0_1.size : Int) := sqd; omega); have hx5 : ∀ h : 0 < x0_1.size, ((x0_1[0]'h).toNat : Int) = bt x0_1 0 := bt_at x0_1 0; clear p5; have qi5 : (0 < (x0_1.size : Int)) = True := eq_true (sqd); replace q5 := eq_true q5; go_wp2; go_roundg k1
   case measure => have := HK1.out; omega
   case rel => exact ⟨(x0_1.extract 1 x0_1.size), z1, H', ⟨by have := HK1.out; omega⟩, z0⟩

/-! ### strings_trimRightByte: function 54 -/
def strings_trimRightByte.l0 : Nat → ByteArray → Int → Option (ByteArray)
  | 0, _, _ => none
  | k + 1, x0, x1 => if (x0.size : Int) > 0 then (if 0 ≤ (wrap64 ((x0.size : Int) - 1)) then (if (wrap64 ((x0.size : Int) - 1)) < (x0.size : Int) then (if (bt x0 (wrap64 ((x0.size : Int) - 1))) = x1 then (if (wrap64 ((x0.size : Int) - 1)) ≤ (x0.size : Int) then (strings_trimRightByte.l0 k (x0.extract 0 ((wrap64 ((x0.size : Int) - 1)) : Int).toNat) x1) else (none)) else (some x0)) else (none)) else (none)) else (some x0)
def strings_trimRightByte.f (k : Nat) (a0 : ByteArray) (a1 : Int) : Option (ByteArray) := strings_trimRightByte.l0 k a0 a1
theorem strings_trimRightByte.mono_l : ∀ k, (∀ y0 y1, LeO (strings_trimRightByte.l0 k y0 y1) (strings_trimRightByte.l0 (k + 1) y0 y1))
  | 0 => fun _ _ r h => by simp [strings_trimRightByte.l0] at h
  | k + 1 => by
   have ih0 := strings_trimRightByte.mono_l k
   intros
   unfold strings_trimRightByte.l0
   all_goals repeat' first | (with_reducible first | apply ih0 | exact LeO.refl _ | exact LeO.none _ | refine LeO.ite ?_ ?_ | refine LeO.bind ?_ (fun _ => ?_)) | apply ih0 | exact LeO.none _ | refine LeO.ite ?_ ?_ | refine LeO.bind ?_ (fun _ => ?_)
theorem strings_trimRightByte.mono : ∀ a0 a1 k, LeO (strings_trimRightByte.f k a0 a1) (strings_trimRightByte.f (k + 1) a0 a1) := by
  intro a0 a1 k
  have ih0 := strings_trimRightByte.mono_l k
  unfold strings_trimRightByte.f
  repeat' first | (with_reducible first | apply ih0 | exact LeO.refl _ | exact LeO.none _ | refine LeO.ite ?_ ?_ | refine LeO.bind ?_ (fun _ => ?_)) | apply ih0 | exact LeO.none _ | refine LeO.ite ?_ ?_ | refine LeO.bind ?_ (fun _ => ?_)
set_option maxHeartbeats 8000000 in
set_option maxRecDepth 100000 in
theorem strings_trimRightByte.calls (k : Nat) (a0 : ByteArray) (a1 : Int) (r : ByteArray) (w : World) (h : strings_trimRightByte.f k a0 a1 = some r) :
    Calls Tryd.prog 54 #[.string a0, .int .u8 a1] w fun e w' => e = .returned (.string r) ∧ Drawn0 w w' := by
 have H : (strings_trimRightByte.l0 k a0 a1) = some r := h; clear h; have H' := mA H; clear H; go_enter Tryd.func54, Tryd.ntmps54; go_wp2; go_loopg [0] k (fun kq v0 w' => ∃ (x0_1 : ByteArray), v0 = .string x0_1 ∧ Aside0 (strings_trimRightByte.l0 kq x0_1 a1 = some r) ∧ Aside0 (kq ≤ k) ∧ Drawn0 w w')
 case atStart => exact ⟨(a0), z1, H', ⟨Nat.le_refl _⟩, z0⟩
 case round =>
  clear H'; (try clear p2); obtain ⟨x0_1, rfl, HA, HK1, ⟨m1, rfl⟩⟩ := hrel
  cases gk with
  | zero => exact absurd HA.out (by simp [strings_trimRightByte.l0])
  | succ k1 =>
   have H := HA.out; clear HA; simp only [strings_trimRightByte.l0] at H; refine sqC ((x0_1.size : Int) > 0) (fun c3 => ?_) (fun c3 => ?_)
   ·rw [if_neg c3] at H; have c3b0 := decide_eq_false c3; have c3b1 : decide (0 < x0_1.size) = false := decide_eq_false (by omega); clear c3; obtain rfl := Option.some.inj H; go_wp2; go_ret; exact ⟨z1, z0⟩
   rw [if_pos c3] at H; have c3b0 := decide_eq_true c3; have c3b1 : decide (0 < x0_1.size) = true := decide_eq_true (by omega); clear c3; obtain ⟨ji4, hji4⟩ : ∃ j_ : Int, (wrap64 ((x0_1.size : Int) - 1)) = j_ := ⟨_, rfl⟩
   replace H : (if 0 ≤ (ji4) then (if (ji4) < (x0_1.size : Int) then (if (bt x0_1 (ji4)) = a1 then (if (ji4) ≤ (x0_1.size : Int) then (strings_trimRightByte.l0 k1 (x0_1.extract 0 ((ji4) : Int).toNat) a1) else (none)) else (some x0_1)) else (none)) else (none)) = some r := by first | (rw [hji4] at H; exact H) | (simp only [hji4] at H ⊢; exact H)
   have hji4w : (IntKind.i64.wrap ((x0_1.size : Int) - 1)) = ji4 := (i64_w _).trans hji4; obtain ⟨c5, H⟩ := sqI H; replace c5 := decide_eq_true c5; obtain ⟨c6, H⟩ := sqI H; replace c6 := decide_eq_true c6; refine sqC ((bt x0_1 (ji4)) = a1) (fun c8 => ?_) (fun c8 => ?_)
   ·rw [if_neg c8] at H; have c8b0 : ((bt x0_1 (ji4)) == a1) = false := beq_eq_false_iff_ne.mpr c8; have c8b1 : ((bt x0_1 (ji4)) != a1) = true := bne_iff_ne.mpr c8; obtain rfl := Option.some.inj H; have p7 : 0 ≤ ((ji4) : Int) := sqd; have q7 : (ji4) < (x0_1.size : Int) := sqd; have hx7 := bt_at x0_1 (ji4); replace p7 := eq_true p7; replace q7 := eq_true q7; go_wp2; go_ret; exact ⟨by first | rfl | (simp; done) | (simp only [← hji4] <;> (first | rfl | simp)) | (simp [*]; done), z0⟩
   rw [if_pos c8] at H; have c8b0 : ((bt x0_1 (ji4)) == a1) = true := beq_iff_eq.mpr c8; have c8b1 : ((bt x0_1 (ji4)) != a1) = false := bne_eq_false_iff_eq.mpr c8; clear c8; have c9b0 := eq_true (sqd : 0 ≤ (ji4)); obtain ⟨c10, H⟩ := sqI H; have c10b0 := eq_true c10; have c10b1 := decide_eq_true c10; clear c10; have H' := mA H; clear H; have p7 : 0 ≤ ((ji4) : Int) := sqd; have q7 : (ji4) < (x0_1.size : Int) := sqd; have hx7 := bt_at x0_1 (ji4); replace p7 := eq_true p7; replace q7 := eq_true q7; go_wp2; go_roundg k1
   case measure => have := HK1.out; omega
   case rel => exact ⟨(x0_1.extract 0 ((ji4) : Int).toNat), (by first | rfl | (simp; done) | (simp only [← hji4] <;> (first | rfl | simp)) | (simp [*]; done)), H', ⟨by have := HK1.out; omega⟩, z0⟩

-- NOT PRINTED: function 55 (strings_makeASCIISet)

-- NOT PRINTED: function 65 (strings_asciiSet_contains)

-- NOT PRINTED: function 56 (strings_trimLeftASCII)

-- NOT PRINTED: function 57 (strings_trimRightASCII)

-- NOT PRINTED: function 69 (utf8_decodeRuneInStringSlow)

-- NOT PRINTED: function 66 (utf8_DecodeRuneInString)

-- NOT PRINTED: function 77 (bytealg_IndexByteString)

-- NOT PRINTED: function 76 (stringslite_IndexByte)

-- NOT PRINTED: function 72 (strings_IndexByte)

/-! ### utf8_ValidRune: function 73 -/
def utf8_ValidRune.j0 : Nat → Int → Bool → Option (Bool)
  | 0, _, _ => none
  | k + 1, x0, x3 => if x3 = true then (some true) else (if 57343 < x0 then (if x0 ≤ 1114111 then (some true) else (some false)) else (some false))
def utf8_ValidRune.f (k : Nat) (a0 : Int) : Option (Bool) := if 0 ≤ a0 then (utf8_ValidRune.j0 k a0 (decide (a0 < 55296))) else (utf8_ValidRune.j0 k a0 false)
theorem utf8_ValidRune.mono_l : ∀ k, (∀ y0 y1, LeO (utf8_ValidRune.j0 k y0 y1) (utf8_ValidRune.j0 (k + 1) y0 y1))
  | 0 => fun _ _ r h => by simp [utf8_ValidRune.j0] at h
  | k + 1 => by
   have ih0 := utf8_ValidRune.mono_l k
   intros
   unfold utf8_ValidRune.j0
   all_goals repeat' first | (with_reducible first | apply ih0 | exact LeO.refl _ | exact LeO.none _ | refine LeO.ite ?_ ?_ | refine LeO.bind ?_ (fun _ => ?_)) | apply ih0 | exact LeO.none _ | refine LeO.ite ?_ ?_ | refine LeO.bind ?_ (fun _ => ?_)
theorem utf8_ValidRune.mono : ∀ a0 k, LeO (utf8_ValidRune.f k a0) (utf8_ValidRune.f (k + 1) a0) := by
  intro a0 k
  have ih0 := utf8_ValidRune.mono_l k
  unfold utf8_ValidRune.f
  repeat' first | (with_reducible first | apply ih0 | exact LeO.refl _ | exact LeO.none _ | refine LeO.ite ?_ ?_ | refine LeO.bind ?_ (fun _ => ?_)) | apply ih0 | exact LeO.none _ | refine LeO.ite ?_ ?_ | refine LeO.bind ?_ (fun _ => ?_)
set_option maxHeartbeats 8000000 in
set_option maxRecDepth 100000 in
theorem utf8_ValidRune.calls (k : Nat) (a0 : Int) (r : Bool) (w : World) (h : utf8_ValidRune.f k a0 = some r) :
    Calls Tryd.prog 73 #[.int .i32 a0] w fun e w' => e = .returned (.bool r) ∧ Drawn0 w w' := by
 have H : (if 0 ≤ a0 then (utf8_ValidRune.j0 k a0 (decide (a0 < 55296))) else (utf8_ValidRune.j0 k a0 false)) = some r := h; clear h; have HC2 := mA H; clear H; go_enter Tryd.func73, Tryd.ntmps73
 go_upto_region 1 with (fail)
 go_cut [3] (fun v3 wc => ∃ (kq : Nat) (x3_1 : Bool), v3 = .bool x3_1 ∧ Aside0 (utf8_ValidRune.j0 kq a0 x3_1 = some r) ∧ Aside0 (kq ≤ k) ∧ Drawn0 w wc)
 case first =>
  have H := HC2.out; clear HC2; refine sqC (0 ≤ a0) (fun c3 => ?_) (fun c3 => ?_)
  ·rw [if_neg c3] at H; have c3b0 := decide_eq_false c3; clear c3; (first | rw [c3b0] | (simp only [i64_w, i32_w]; rw [c3b0]) | skip); have H' := mA H; clear H; go_wp2; go_meet
   case rel => exact ⟨_, (false), z1, H', ⟨by first | omega | exact Nat.le_refl _⟩, z0⟩
  rw [if_pos c3] at H; have c3b0 := decide_eq_true c3; clear c3; (first | rw [c3b0] | (simp only [i64_w, i32_w]; rw [c3b0]) | skip); have H' := mA H; clear H; go_wp2; go_meet
  case rel => exact ⟨_, (decide (a0 < 55296)), z1, H', ⟨by first | omega | exact Nat.le_refl _⟩, z0⟩
 case rest =>
  clear HC2; (try clear p2); (try clear c3); (try clear c3b0); obtain ⟨kq, x3_1, rfl, HA, HJ1, ⟨mc1, rfl⟩⟩ := hcut
  cases kq with
  | zero => exact absurd HA.out (by simp [utf8_ValidRune.j0])
  | succ kj1 =>
   have H := HA.out; clear HA; simp only [utf8_ValidRune.j0] at H; by_cases c4 : x3_1 = true
   ·subst c4; rw [if_pos rfl] at H; obtain rfl := Option.some.inj H; go_wp2; go_ret; exact ⟨z1, z0⟩
   replace c4 := Bool.eq_false_iff.mpr c4; subst c4; rw [if_neg (show ¬ (false = true) by decide)] at H; refine sqC (57343 < a0) (fun c5 => ?_) (fun c5 => ?_)
   ·rw [if_neg c5] at H; replace c5 := decide_eq_false c5; obtain rfl := Option.some.inj H; go_wp2; go_ret; exact ⟨z1, z0⟩
   rw [if_pos c5] at H; replace c5 := decide_eq_true c5; by_cases c6 : a0 ≤ 1114111
   ·rw [if_pos c6] at H; replace c6 := decide_eq_true c6; obtain rfl := Option.some.inj H; go_wp2; go_ret; exact ⟨z1, z0⟩
   rw [if_neg c6] at H; replace c6 := decide_eq_false c6; obtain rfl := Option.some.inj H; go_wp2; go_ret; exact ⟨z1, z0⟩

/-! ### bytealg_Cutover: function 74 -/
def bytealg_Cutover.f (a0 : Int) : Option (Int) := some (wrap64 (Int.tdiv (wrap64 (a0 + 16)) 8))
set_option maxHeartbeats 8000000 in
set_option maxRecDepth 100000 in
theorem bytealg_Cutover.calls (a0 : Int) (r : Int) (w : World) (h : bytealg_Cutover.f a0 = some r) :
    Calls Tryd.prog 74 #[.int .i64 a0] w fun e w' => e = .returned (.int .i64 r) ∧ Drawn0 w w' := by
 have H : (some (wrap64 (Int.tdiv (wrap64 (a0 + 16)) 8))) = some r := h; clear h; obtain rfl := Option.some.inj H; go_enter Tryd.func74, Tryd.ntmps74; go_wp2; go_ret; exact ⟨z1, z0⟩

-- NOT PRINTED: function 75 (bytealg_IndexString)

-- NOT PRINTED: function 70 (strings_IndexRune)

-- NOT PRINTED: function 67 (strings_ContainsRune)

-- NOT PRINTED: function 58 (strings_trimLeftUnicode)

/-! ### utf8_RuneStart: function 71 -/
def utf8_RuneStart.f (a0 : Int) : Option (Bool) := some ((Go.bits .and .u8 a0 192) != 128)
set_option maxHeartbeats 8000000 in
set_option maxRecDepth 100000 in
theorem utf8_RuneStart.calls (a0 : Int) (r : Bool) (w : World) (h : utf8_RuneStart.f a0 = some r) :
    Calls Tryd.prog 71 #[.int .u8 a0] w fun e w' => e = .returned (.bool r) ∧ Drawn0 w w' := by
 have H : (some ((Go.bits .and .u8 a0 192) != 128)) = some r := h; clear h; obtain rfl := Option.some.inj H; go_enter Tryd.func71, Tryd.ntmps71; go_wp2; go_ret; exact ⟨z1, z0⟩

-- NOT PRINTED: function 68 (utf8_DecodeLastRuneInString)

-- NOT PRINTED: function 59 (strings_trimRightUnicode)

/-! ### strings_Trim: function 33 -/
-- given by hand
def strings_Trim.ren : Go.Shelf.Ren := ⟨fun | 160 => 33 | 232 => 54 | 231 => 53 | 227 => 55 | 234 => 57 | 233 => 56 | 236 => 59 | 235 => 58 | 228 => 65 | 271 => 68 | 151 => 67 | 197 => 66 | 120 => 71 | 152 => 70 | 260 => 69 | 137 => 72 | 119 => 73 | 224 => 74 | 225 => 75 | 217 => 76 | 266 => 77 | n => n, fun | 9 => 9 | 4 => 4 | 3 => 3 | 5 => 5 | 117 => 65 | 116 => 64 | 0 => 0 | 124 => 68 | 21 => 21 | 105 => 75 | 46 => 78 | 119 => 80 | 139 => 83 | 138 => 82 | n => n, fun | 3 => 0 | 4 => 1 | n => n⟩
theorem strings_Trim.lay : Go.Proofs.Lays.n160 Tryd.prog strings_Trim.ren := {
  mixed := by kernel_rfl,
  f119 := Tryd.func73.trans (congrArg some (by kernel_rfl)),
  f120 := Tryd.func71.trans (congrArg some (by kernel_rfl)),
  f137 := Tryd.func72.trans (congrArg some (by kernel_rfl)),
  f151 := Tryd.func67.trans (congrArg some (by kernel_rfl)),
  f152 := Tryd.func70.trans (congrArg some (by kernel_rfl)),
  f160 := Tryd.func33.trans (congrArg some (by kernel_rfl)),
  f197 := Tryd.func66.trans (congrArg some (by kernel_rfl)),
  f217 := Tryd.func76.trans (congrArg some (by kernel_rfl)),
  f224 := Tryd.func74.trans (congrArg some (by kernel_rfl)),
  f225 := Tryd.func75.trans (congrArg some (by kernel_rfl)),
  f227 := Tryd.func55.trans (congrArg some (by kernel_rfl)),
  f228 := Tryd.func65.trans (congrArg some (by kernel_rfl)),
  f231 := Tryd.func53.trans (congrArg some (by kernel_rfl)),
  f232 := Tryd.func54.trans (congrArg some (by kernel_rfl)),
  f233 := Tryd.func56.trans (congrArg some (by kernel_rfl)),
  f234 := Tryd.func57.trans (congrArg some (by kernel_rfl)),
  f235 := Tryd.func58.trans (congrArg some (by kernel_rfl)),
  f236 := Tryd.func59.trans (congrArg some (by kernel_rfl)),
  f260 := Tryd.func69.trans (congrArg some (by kernel_rfl)),
  f266 := Tryd.func77.trans (congrArg some (by kernel_rfl)),
  f271 := Tryd.func68.trans (congrArg some (by kernel_rfl)),
  t0 := Tryd.underlying0,
  a0 := Tryd.isAgg0,
  z0 := Tryd.sizeOf0,
  v0 := Tryd.zeroValue0,
  t3 := Tryd.underlying3,
  a3 := Tryd.isAgg3,
  z3 := Tryd.sizeOf3,
  v3 := Tryd.zeroValue3,
  t4 := Tryd.underlying4,
  a4 := Tryd.isAgg4,
  z4 := Tryd.sizeOf4,
  v4 := Tryd.zeroValue4,
  t5 := Tryd.underlying5,
  a5 := Tryd.isAgg5,
  z5 := Tryd.sizeOf5,
  v5 := Tryd.zeroValue5,
  t9 := Tryd.underlying9,
  a9 := Tryd.isAgg9,
  z9 := Tryd.sizeOf9,
  v9 := Tryd.zeroValue9,
  t21 := Tryd.underlying21,
  a21 := Tryd.isAgg21,
  z21 := Tryd.sizeOf21,
  v21 := Tryd.zeroValue21,
  t46 := Tryd.underlying78,
  a46 := Tryd.isAgg78,
  z46 := Tryd.sizeOf78,
  v46 := Tryd.zeroValue78,
  t105 := Tryd.underlying75,
  a105 := Tryd.isAgg75,
  z105 := Tryd.sizeOf75,
  v105 := Tryd.zeroValue75,
  t116 := Tryd.underlying64,
  a116 := Tryd.isAgg64,
  z116 := Tryd.sizeOf64,
  t117 := Tryd.underlying65,
  a117 := Tryd.isAgg65,
  z117 := Tryd.sizeOf65,
  v117 := Tryd.zeroValue65,
  t119 := Tryd.underlying80,
  a119 := Tryd.isAgg80,
  z119 := Tryd.sizeOf80,
  t124 := Tryd.underlying68,
  a124 := Tryd.isAgg68,
  z124 := Tryd.sizeOf68,
  v124 := Tryd.zeroValue68,
  t138 := Tryd.underlying82,
  a138 := Tryd.isAgg82,
  z138 := Tryd.sizeOf82,
  v138 := Tryd.zeroValue82,
  t139 := Tryd.underlying83,
  a139 := Tryd.isAgg83,
  z139 := Tryd.sizeOf83,
  v139 := Tryd.zeroValue83,
  g3 := by kernel_rfl,
  g4 := by kernel_rfl }
def strings_Trim.f (a0 a1 : ByteArray) : Option ByteArray := if a1.data = #[97, 98] ∧ a0.size ≤ 9223372036854775807 then some ⟨(Go.Lib.trimS a0.data.toList [97, 98]).toArray⟩ else none
theorem strings_Trim.calls (a0 a1 r : ByteArray) (w : World) (h : strings_Trim.f a0 a1 = some r) :
    Calls Tryd.prog 33 #[.string a0, .string a1] w fun e w' => e = .returned (.string r) ∧ Below w.heap.size w w' := by
 unfold strings_Trim.f at h; refine sqC (a1.data = #[97, 98] ∧ a0.size ≤ 9223372036854775807) (fun c => ?_) (fun c => ?_)
 ·rw [if_neg c] at h
  cases h
 rw [if_pos c] at h; obtain rfl := Option.some.inj h; obtain ⟨c1, c2⟩ := c
 obtain rfl : a1 = ⟨#[97, 98]⟩ := by cases a1; cases c1; rfl
 have hcon := Go.Proofs.Any.strings_Trim_laid strings_Trim.lay (by kernel_rfl) a0 ⟨#[97, 98]⟩ w c2 (by decide) (Go.Proofs.ascii_of_all (by decide)); exact hcon

/-! ### impl_IsWord: function 12 -/
def impl_IsWord.f (a0 : ByteArray) : Option (Bool) := if (a0.size : Int) ≤ 120 then ((strings_Trim.f a0 (⟨#[97, 98]⟩ : ByteArray)).bind fun t105 => (some (t105.toList == ([] : List UInt8)))) else (some false)
set_option maxHeartbeats 8000000 in
set_option maxRecDepth 100000 in
theorem impl_IsWord.calls (a0 : ByteArray) (r : Bool) (w : World) (h : impl_IsWord.f a0 = some r) :
    Calls Tryd.prog 12 #[.string a0] w fun e w' => e = .returned (.bool r) ∧ Below w.heap.size w w' := by
 have HB := mA (Below.refl w.heap.size w); have H : (if (a0.size : Int) ≤ 120 then ((strings_Trim.f a0 (⟨#[97, 98]⟩ : ByteArray)).bind fun t105 => (some (t105.toList == ([] : List UInt8)))) else (some false)) = some r := h; clear h; refine sqC ((a0.size : Int) ≤ 120) (fun c2 => ?_) (fun c2 => ?_)
 ·rw [if_neg c2] at H; have c2b0 := decide_eq_false c2; have c2b1 : decide (a0.size ≤ 120) = false := decide_eq_false (by omega); clear c2; obtain rfl := Option.some.inj H; go_enter Tryd.func12, Tryd.ntmps12; go_wp2; go_ret; exact ⟨z3, z2⟩
 rw [if_pos c2] at H; have c2b0 := decide_eq_true c2; have c2b1 : decide (a0.size ≤ 120) = true := decide_eq_true (by omega); clear c2; obtain ⟨t105, A3, H⟩ := sqB H; obtain rfl := Option.some.inj H; go_enter Tryd.func12, Tryd.ntmps12; go_wp2_with (first | (go_at_call 33; (with_reducible refine (strings_Trim.calls a0 (⟨#[97, 98]⟩ : ByteArray) t105 _ A3.out).mono ?_); rintro e w4 ⟨rfl, hb⟩; replace HB := mA (below_step z2 hb); (try clear hb))); go_ret; exact ⟨z3, z2⟩

end Go.Proofs.YtkmghekffehimaaDoor.PFnExactPeriodOf
