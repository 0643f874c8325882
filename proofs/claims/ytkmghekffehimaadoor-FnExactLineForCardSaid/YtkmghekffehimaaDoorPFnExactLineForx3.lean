/- Written by this session's program (wip/tool/xprint.py) over the kit's printer. -/
import Derived.Test.YtkmghekffehimaaDoorPFnExactLineForx0
import Derived.Test.YtkmghekffehimaaDoorPFnExactLineForx2
namespace Go.Proofs.YtkmghekffehimaaDoor.PFnExactLineFor
open Go.RowKit Go.Proofs.YtkmghekffehimaaDoorW.PrintWords Go.Proofs.YtkmghekffehimaaDoorW.PrintLast Go.Proofs.YtkmghekffehimaaDoorW.PrintMore
attribute [local go_sem] max2_int min2_int max_two min_two max_three min_three max_four min_four   -- for this text's walks alone
set_option linter.unusedVariables false
set_option linter.unusedSimpArgs false

/-! ### impl_IsBalanced: function 21 -/
mutual
def impl_IsBalanced.l0 : Nat → List Int → Int → Int → Option (Bool)
  | 0, _, _, _ => none
  | k + 1, x3, x15, x16 => if x16 < x15 then (if 0 ≤ x16 then (if x16 < (x3.length : Int) then (impl_IsBalanced.l1 k x3 x16 (rd x3 x16) (rd x3 x16) x16 x15 x16) else (none)) else (none)) else (some true)
def impl_IsBalanced.l1 : Nat → List Int → Int → Int → Int → Int → Int → Int → Option (Bool)
  | 0, _, _, _, _, _, _, _ => none
  | k + 1, x3, x4, x5, x6, x7, x15, x16 => if x7 < (x3.length : Int) then (if 0 ≤ x7 then (if 0 ≤ (wrap64 (x7 - x4)) then (if (wrap64 (x7 - x4)) < (x3.length : Int) then (impl_IsBalanced.l1 k x3 x4 (mn x5 (wrap64 ((rd x3 x7) - (rd x3 (wrap64 (x7 - x4)))))) (mx x6 (wrap64 ((rd x3 x7) - (rd x3 (wrap64 (x7 - x4)))))) (wrap64 (x7 + 1)) x15 x16) else (none)) else (none)) else (none)) else (if (wrap64 (x6 - x5)) > 1 then (some false) else (impl_IsBalanced.l0 k x3 x15 (wrap64 (x16 + 1))))
end
def impl_IsBalanced.f (k : Nat) (a0 : ByteArray) : Option (Bool) := (impl_IsWord.f a0).bind fun t126 => (if t126 = true then ((impl_heights.f k a0).bind fun t127 => (impl_IsBalanced.l0 k t127 (t127.length : Int) 0)) else (some false))
theorem impl_IsBalanced.mono_l : ∀ k, (∀ y0 y1 y2, LeO (impl_IsBalanced.l0 k y0 y1 y2) (impl_IsBalanced.l0 (k + 1) y0 y1 y2)) ∧ (∀ y0 y1 y2 y3 y4 y5 y6, LeO (impl_IsBalanced.l1 k y0 y1 y2 y3 y4 y5 y6) (impl_IsBalanced.l1 (k + 1) y0 y1 y2 y3 y4 y5 y6))
  | 0 => ⟨fun _ _ _ r h => by simp [impl_IsBalanced.l0] at h, fun _ _ _ _ _ _ _ r h => by simp [impl_IsBalanced.l1] at h⟩
  | k + 1 => by
   obtain ⟨ih0, ih1⟩ := impl_IsBalanced.mono_l k
   refine ⟨?_, ?_⟩ <;> intros
   all_goals first | unfold impl_IsBalanced.l0 | unfold impl_IsBalanced.l1
   all_goals repeat' first | (with_reducible first | apply ih0 | apply ih1 | apply impl_heights.mono | exact LeO.refl _ | exact LeO.none _ | refine LeO.ite ?_ ?_ | refine LeO.bind ?_ (fun _ => ?_)) | apply ih0 | apply ih1 | apply impl_heights.mono | exact LeO.none _ | refine LeO.ite ?_ ?_ | refine LeO.bind ?_ (fun _ => ?_)
theorem impl_IsBalanced.mono : ∀ a0 k, LeO (impl_IsBalanced.f k a0) (impl_IsBalanced.f (k + 1) a0) := by
  intro a0 k
  obtain ⟨ih0, ih1⟩ := impl_IsBalanced.mono_l k
  unfold impl_IsBalanced.f
  repeat' first | (with_reducible first | apply ih0 | apply ih1 | apply impl_heights.mono | exact LeO.refl _ | exact LeO.none _ | refine LeO.ite ?_ ?_ | refine LeO.bind ?_ (fun _ => ?_)) | apply ih0 | apply ih1 | apply impl_heights.mono | exact LeO.none _ | refine LeO.ite ?_ ?_ | refine LeO.bind ?_ (fun _ => ?_)
set_option maxHeartbeats 8000000 in
set_option maxRecDepth 100000 in
theorem impl_IsBalanced.calls (k : Nat) (a0 : ByteArray) (r : Bool) (w : World) (h : impl_IsBalanced.f k a0 = some r) :
    Calls Tryd.prog 21 #[.string a0] w fun e w' => e = .returned (.bool r) ∧ Below w.heap.size w w' := by
 have HB := mA (Below.refl w.heap.size w); have H : ((impl_IsWord.f a0).bind fun t126 => (if t126 = true then ((impl_heights.f k a0).bind fun t127 => (impl_IsBalanced.l0 k t127 (t127.length : Int) 0)) else (some false))) = some r := h; clear h; obtain ⟨t126, A2, H⟩ := sqB H; refine sqC (t126 = true) (fun c3 => ?_) (fun c3 => ?_)
 ·replace c3 := Bool.eq_false_iff.mpr c3; subst c3; rw [if_neg (show ¬ (false = true) by decide)] at H; obtain rfl := Option.some.inj H; go_enter Tryd.func21, Tryd.ntmps21; go_wp2_with (first | (go_at_call 12; (with_reducible refine (impl_IsWord.calls a0 false _ A2.out).mono ?_); rintro e w19 ⟨rfl, hb⟩; replace HB := mA (below_step z1 hb); (try clear hb)))
  repeat (go_quiet (first | (go_at_call 12; (with_reducible refine (impl_IsWord.calls a0 false _ A2.out).mono ?_); rintro e w19 ⟨rfl, hb⟩; replace HB := mA (below_step z1 hb); (try clear hb))); try go_wp2_with (first | (go_at_call 12; (with_reducible refine (impl_IsWord.calls a0 false _ A2.out).mono ?_); rintro e w19 ⟨rfl, hb⟩; replace HB := mA (below_step z1 hb); (try clear hb))))
  go_ret; exact ⟨z7, z1⟩
 subst c3; rw [if_pos rfl] at H; obtain ⟨t127, A4, H⟩ := sqB H; have H' := mA H; clear H; go_enter Tryd.func21, Tryd.ntmps21; go_wp2_with (first | (go_at_call 12; (with_reducible refine (impl_IsWord.calls a0 true _ A2.out).mono ?_); rintro e w5 ⟨rfl, hb⟩; replace HB := mA (below_step z1 hb); (try clear hb)) | (go_at_call 36; (with_reducible refine (impl_heights.calls k a0 t127 _ A4.out).mono ?_); rintro e w6 ⟨v128, rfl, ho0, hb⟩; have HO129 := mA (Kd.R_lower ho0 (below_size z1)); replace HB := mA (below_step z1 hb); (try clear hb ho0); obtain ⟨Ao7, co7, eo7⟩ := Kd.R_slice HO129.out; subst eo7))
 repeat (go_quiet (first | (go_at_call 12; (with_reducible refine (impl_IsWord.calls a0 true _ A2.out).mono ?_); rintro e w5 ⟨rfl, hb⟩; replace HB := mA (below_step z1 hb); (try clear hb)) | (go_at_call 36; (with_reducible refine (impl_heights.calls k a0 t127 _ A4.out).mono ?_); rintro e w6 ⟨v128, rfl, ho0, hb⟩; have HO129 := mA (Kd.R_lower ho0 (below_size z1)); replace HB := mA (below_step z1 hb); (try clear hb ho0); obtain ⟨Ao7, co7, eo7⟩ := Kd.R_slice HO129.out; subst eo7)); try go_wp2_with (first | (go_at_call 12; (with_reducible refine (impl_IsWord.calls a0 true _ A2.out).mono ?_); rintro e w5 ⟨rfl, hb⟩; replace HB := mA (below_step z1 hb); (try clear hb)) | (go_at_call 36; (with_reducible refine (impl_heights.calls k a0 t127 _ A4.out).mono ?_); rintro e w6 ⟨v128, rfl, ho0, hb⟩; have HO129 := mA (Kd.R_lower ho0 (below_size z1)); replace HB := mA (below_step z1 hb); (try clear hb ho0); obtain ⟨Ao7, co7, eo7⟩ := Kd.R_slice HO129.out; subst eo7)))
 go_loopg [16] k (fun kq v16 w' => ∃ (x16_1 : Int), v16 = .int .i64 x16_1 ∧ Aside0 (impl_IsBalanced.l0 kq t127 (t127.length : Int) x16_1 = some r) ∧ Aside0 (kq ≤ k) ∧ Aside0 (Kd.R (Kd.int .i64) 2 w' w.heap.size (fun _ => True) (.slice Ao7 t127.length co7) t127) ∧ Aside0 (Below w.heap.size w w'))
 case atStart => exact ⟨(0), z3, H', ⟨Nat.le_refl _⟩, ⟨z5 HO129⟩, ⟨z1⟩⟩
 case round =>
  clear H'; (try clear c2); (try clear p2); (try clear c3); obtain ⟨x16_1, rfl, HA, HK1, HO_3, HB⟩ := hrel
  cases gk with
  | zero => exact absurd HA.out (by simp [impl_IsBalanced.l0])
  | succ k1 =>
   have H := HA.out; clear HA; simp only [impl_IsBalanced.l0] at H; refine sqC (x16_1 < (t127.length : Int)) (fun c8 => ?_) (fun c8 => ?_)
   ·rw [if_neg c8] at H; replace c8 := decide_eq_false c8; obtain rfl := Option.some.inj H; go_wp2
    repeat (go_quiet (fail); try go_wp2)
    go_ret; exact ⟨z7, z1⟩
   rw [if_pos c8] at H; replace c8 := decide_eq_true c8; obtain ⟨c9, H⟩ := sqI H; replace c9 := decide_eq_true c9; obtain ⟨c10, H⟩ := sqI H; replace c10 := decide_eq_true c10; have H' := mA H; clear H; have p130 : 0 ≤ (x16_1 : Int) := sqd; have q130 : x16_1 < (t127.length : Int) := sqd; obtain ⟨ad130, e130, hx130_0⟩ := Kd.at_int (Kd.R_reads' HO_3.out).2.2 x16_1 p130 q130
   cases e130
   replace p130 := eq_true p130; replace q130 := eq_true q130; have p131 : 0 ≤ (x16_1 : Int) := sqd; have q131 : x16_1 < (t127.length : Int) := sqd; obtain ⟨ad131, e131, hx131_0⟩ := Kd.at_int (Kd.R_reads' HO_3.out).2.2 x16_1 p131 q131; obtain rfl : ad130 = ad131 := (by injection e131); replace p131 := eq_true p131; replace q131 := eq_true q131; go_wp2
   repeat (go_quiet (fail); try go_wp2)
   go_loopg [5, 6, 7] k1 (fun kq v5 v6 v7 w' => ∃ (x5_2 : Int) (x6_2 : Int) (x7_2 : Int), v5 = .int .i64 x5_2 ∧ v6 = .int .i64 x6_2 ∧ v7 = .int .i64 x7_2 ∧ Aside0 (impl_IsBalanced.l1 kq t127 x16_1 x5_2 x6_2 x7_2 (t127.length : Int) x16_1 = some r) ∧ Aside0 (kq ≤ k1) ∧ Aside0 (Kd.R (Kd.int .i64) 2 w' w.heap.size (fun _ => True) (.slice (some ad130) t127.length co7) t127) ∧ Aside0 (Below w.heap.size w w'))
   case atStart => exact ⟨(rd t127 x16_1), (rd t127 x16_1), (x16_1), z3, z3, z3, H', ⟨Nat.le_refl _⟩, ⟨z5 HO_3⟩, ⟨z1⟩⟩
   case round =>
    clear H'; (try clear c1); (try clear p1); (try clear q1); (try clear hx1); (try clear c2); (try clear p2); (try clear c3); (try clear c8); (try clear c8b0); (try clear c9); (try clear c9b0); (try clear c10); (try clear c10b0); (try clear hx130_0); (try clear hx131_0); (try clear p130); (try clear p131); (try clear p2); (try clear q130); (try clear q131); obtain ⟨x5_2, x6_2, x7_2, rfl, rfl, rfl, HA, HK2, HO_3, HB⟩ := hrel
    cases gk with
    | zero => exact absurd HA.out (by simp [impl_IsBalanced.l1])
    | succ k2 =>
     have H := HA.out; clear HA; simp only [impl_IsBalanced.l1] at H; refine sqC (x7_2 < (t127.length : Int)) (fun c11 => ?_) (fun c11 => ?_)
     ·rw [if_neg c11] at H; replace c11 := decide_eq_false c11; by_cases c18 : (wrap64 (x6_2 - x5_2)) > 1
      ·rw [if_pos c18] at H; replace c18 := decide_eq_true c18; obtain rfl := Option.some.inj H; go_wp2
       repeat (go_quiet (fail); try go_wp2)
       go_ret; exact ⟨z7, z1⟩
      rw [if_neg c18] at H; replace c18 := decide_eq_false c18; have H' := mA H; clear H; go_wp2
      repeat (go_quiet (fail); try go_wp2)
      go_roundg k2
      case measure => have := HK1.out; have := HK2.out; omega
      case rel => exact ⟨(wrap64 (x16_1 + 1)), z3, H', ⟨z9 HK1 HK2⟩, ⟨z5 HO_3⟩, ⟨z1⟩⟩
     rw [if_pos c11] at H; replace c11 := decide_eq_true c11; obtain ⟨c12, H⟩ := sqI H; replace c12 := decide_eq_true c12; obtain ⟨ji13, hji13⟩ : ∃ j_ : Int, (wrap64 (x7_2 - x16_1)) = j_ := ⟨_, rfl⟩
     replace H : (if 0 ≤ (ji13) then (if (ji13) < (t127.length : Int) then (impl_IsBalanced.l1 k2 t127 x16_1 (mn x5_2 (wrap64 ((rd t127 x7_2) - (rd t127 (ji13))))) (mx x6_2 (wrap64 ((rd t127 x7_2) - (rd t127 (ji13))))) (wrap64 (x7_2 + 1)) (t127.length : Int) x16_1) else (none)) else (none)) = some r := by first | (rw [hji13] at H; exact H) | (simp only [hji13] at H ⊢; exact H)
     have hji13w : (IntKind.i64.wrap (x7_2 - x16_1)) = ji13 := (i64_w _).trans hji13; obtain ⟨c14, H⟩ := sqI H; replace c14 := decide_eq_true c14; obtain ⟨c15, H⟩ := sqI H; replace c15 := decide_eq_true c15; obtain ⟨ji16, hji16⟩ : ∃ j_ : Int, (mn x5_2 (wrap64 ((rd t127 x7_2) - (rd t127 (ji13))))) = j_ := ⟨_, rfl⟩
     replace H : (impl_IsBalanced.l1 k2 t127 x16_1 ji16 (mx x6_2 (wrap64 ((rd t127 x7_2) - (rd t127 (ji13))))) (wrap64 (x7_2 + 1)) (t127.length : Int) x16_1) = some r := by first | (rw [hji16] at H; exact H) | (simp only [hji16] at H ⊢; exact H)
     have hji16_ : (if (wrap64 ((rd t127 x7_2) - (rd t127 (ji13)))) < x5_2 then (wrap64 ((rd t127 x7_2) - (rd t127 (ji13)))) else x5_2) = ji16 := hji16; obtain ⟨ji17, hji17⟩ : ∃ j_ : Int, (mx x6_2 (wrap64 ((rd t127 x7_2) - (rd t127 (ji13))))) = j_ := ⟨_, rfl⟩
     replace H : (impl_IsBalanced.l1 k2 t127 x16_1 ji16 ji17 (wrap64 (x7_2 + 1)) (t127.length : Int) x16_1) = some r := by first | (rw [hji17] at H; exact H) | (simp only [hji17] at H ⊢; exact H)
     have hji17_ : (if x6_2 < (wrap64 ((rd t127 x7_2) - (rd t127 (ji13)))) then (wrap64 ((rd t127 x7_2) - (rd t127 (ji13)))) else x6_2) = ji17 := hji17; have H' := mA H; clear H; have p132 : 0 ≤ (x7_2 : Int) := sqd; have q132 : x7_2 < (t127.length : Int) := sqd; obtain ⟨ad132, e132, hx132_0⟩ := Kd.at_int (Kd.R_reads' HO_3.out).2.2 x7_2 p132 q132; obtain rfl : ad130 = ad132 := (by injection e132); replace p132 := eq_true p132; replace q132 := eq_true q132; have p133 : 0 ≤ ((ji13) : Int) := sqd; have q133 : (ji13) < (t127.length : Int) := sqd; obtain ⟨ad133, e133, hx133_0⟩ := Kd.at_int (Kd.R_reads' HO_3.out).2.2 (ji13) p133 q133; obtain rfl : ad130 = ad133 := (by injection e133); replace p133 := eq_true p133; replace q133 := eq_true q133; go_wp2
     repeat (go_quiet (fail); try go_wp2)
     go_roundg k2
     case measure => have := HK1.out; have := HK2.out; omega
     case rel => exact ⟨(ji16), (ji17), (wrap64 (x7_2 + 1)), (by first | rfl | (simp; done) | (simp only [← hji16] <;> (first | rfl | simp)) | (simp [*]; done)), (by first | rfl | (simp; done) | (simp only [← hji17] <;> (first | rfl | simp)) | (simp [*]; done)), z3, H', ⟨z9 HK1 HK2⟩, ⟨z5 HO_3⟩, ⟨z1⟩⟩

/-! ### impl_within: function 49 -/
def impl_within.f (a0 : Int) (a1 : Int) (a2 : Int) : Option (Bool) := if a1 ≤ a0 then (some (decide (a0 ≤ a2))) else (some false)
set_option maxHeartbeats 8000000 in
set_option maxRecDepth 100000 in
theorem impl_within.calls (a0 : Int) (a1 : Int) (a2 : Int) (r : Bool) (w : World) (h : impl_within.f a0 a1 a2 = some r) :
    Calls Tryd.prog 49 #[.int .i64 a0, .int .i64 a1, .int .i64 a2] w fun e w' => e = .returned (.bool r) ∧ Drawn0 w w' := by
 have H : (if a1 ≤ a0 then (some (decide (a0 ≤ a2))) else (some false)) = some r := h; clear h; by_cases c4 : a1 ≤ a0
 ·rw [if_pos c4] at H; replace c4 := decide_eq_true c4; obtain rfl := Option.some.inj H; go_enter Tryd.func49, Tryd.ntmps49; go_wp2; go_ret; exact ⟨z3, z6⟩
 rw [if_neg c4] at H; replace c4 := decide_eq_false c4; obtain rfl := Option.some.inj H; go_enter Tryd.func49, Tryd.ntmps49; go_wp2; go_ret; exact ⟨z3, z6⟩

/-! ### impl_floor: function 52 -/
def impl_floor.f (a0 : Int) (a1 : Int) : Option (Int) := if a1 = 0 then (none) else (if (Int.tmod a0 a1) < 0 then (some (wrap64 ((wrap64 (Int.tdiv a0 a1)) - 1))) else (some (wrap64 (Int.tdiv a0 a1))))
set_option maxHeartbeats 8000000 in
set_option maxRecDepth 100000 in
theorem impl_floor.calls (a0 : Int) (a1 : Int) (r : Int) (w : World) (h : impl_floor.f a0 a1 = some r) :
    Calls Tryd.prog 52 #[.int .i64 a0, .int .i64 a1] w fun e w' => e = .returned (.int .i64 r) ∧ Drawn0 w w' := by
 have H : (if a1 = 0 then (none) else (if (Int.tmod a0 a1) < 0 then (some (wrap64 ((wrap64 (Int.tdiv a0 a1)) - 1))) else (some (wrap64 (Int.tdiv a0 a1))))) = some r := h; clear h; obtain ⟨c3, H⟩ := sqJ H; have c3b0 : (a1 == 0) = false := beq_eq_false_iff_ne.mpr c3; have c3b1 : (a1 != 0) = true := bne_iff_ne.mpr c3; by_cases c4 : (Int.tmod a0 a1) < 0
 ·rw [if_pos c4] at H; replace c4 := decide_eq_true c4; obtain rfl := Option.some.inj H; go_enter Tryd.func52, Tryd.ntmps52; go_wp2; go_ret; exact ⟨z3, z6⟩
 rw [if_neg c4] at H; replace c4 := decide_eq_false c4; obtain rfl := Option.some.inj H; go_enter Tryd.func52, Tryd.ntmps52; go_wp2; go_ret; exact ⟨z3, z6⟩

/-! ### impl_steps: function 50 -/
def impl_steps.l0 : Nat → Int → Int → Int → Int → Int → List Int → Int → Int → Option (ByteArray)
  | 0, _, _, _, _, _, _, _, _ => none
  | k + 1, x0, x1, x2, x4, x5, x13, x16, x17 => if x17 < x16 then ((impl_floor.f (wrap64 ((wrap64 ((wrap64 (x17 + 1)) * x0)) + x2)) x1).bind fun t137 => ((impl_floor.f (wrap64 ((wrap64 (x17 * x0)) + x2)) x1).bind fun t138 => (if t137 > t138 then (if x13.length < 140737488355328 then (impl_steps.l0 k x0 x1 x2 x4 x5 (x13 ++ [x4]) x16 (wrap64 (x17 + 1))) else (none)) else (if x13.length < 140737488355328 then (impl_steps.l0 k x0 x1 x2 x4 x5 (x13 ++ [x5]) x16 (wrap64 (x17 + 1))) else (none))))) else (some (strOfNums x13))
def impl_steps.f (k : Nat) (a0 : Int) (a1 : Int) (a2 : Int) (a3 : Int) (a4 : Int) (a5 : Int) : Option (ByteArray) := impl_steps.l0 k a0 a1 a2 a4 a5 (([] : List Int)) a3 0
theorem impl_steps.mono_l : ∀ k, (∀ y0 y1 y2 y3 y4 y5 y6 y7, LeO (impl_steps.l0 k y0 y1 y2 y3 y4 y5 y6 y7) (impl_steps.l0 (k + 1) y0 y1 y2 y3 y4 y5 y6 y7))
  | 0 => fun _ _ _ _ _ _ _ _ r h => by simp [impl_steps.l0] at h
  | k + 1 => by
   have ih0 := impl_steps.mono_l k
   intros
   unfold impl_steps.l0
   all_goals repeat' first | (with_reducible first | apply ih0 | exact LeO.refl _ | exact LeO.none _ | refine LeO.ite ?_ ?_ | refine LeO.bind ?_ (fun _ => ?_)) | apply ih0 | exact LeO.none _ | refine LeO.ite ?_ ?_ | refine LeO.bind ?_ (fun _ => ?_)
theorem impl_steps.mono : ∀ a0 a1 a2 a3 a4 a5 k, LeO (impl_steps.f k a0 a1 a2 a3 a4 a5) (impl_steps.f (k + 1) a0 a1 a2 a3 a4 a5) := by
  intro a0 a1 a2 a3 a4 a5 k
  have ih0 := impl_steps.mono_l k
  unfold impl_steps.f
  repeat' first | (with_reducible first | apply ih0 | exact LeO.refl _ | exact LeO.none _ | refine LeO.ite ?_ ?_ | refine LeO.bind ?_ (fun _ => ?_)) | apply ih0 | exact LeO.none _ | refine LeO.ite ?_ ?_ | refine LeO.bind ?_ (fun _ => ?_)
set_option maxHeartbeats 8000000 in
set_option maxRecDepth 100000 in
theorem impl_steps.calls (k : Nat) (a0 : Int) (a1 : Int) (a2 : Int) (a3 : Int) (a4 : Int) (a5 : Int) (r : ByteArray) (w : World) (h : impl_steps.f k a0 a1 a2 a3 a4 a5 = some r) :
    Calls Tryd.prog 50 #[.int .i64 a0, .int .i64 a1, .int .i64 a2, .int .i64 a3, .int .u8 a4, .int .u8 a5] w fun e w' => e = .returned (.string r) ∧ Below w.heap.size w w' := by
 have HB := mA (Below.refl w.heap.size w); have H : (impl_steps.l0 k a0 a1 a2 a4 a5 (([] : List Int)) a3 0) = some r := h; clear h; obtain ⟨y134, hy134⟩ : ∃ y_ : List Int, y_ = (([] : List Int)) := ⟨_, rfl⟩
 replace H : (impl_steps.l0 k a0 a1 a2 a4 a5 y134 a3 0) = some r := by first | (rw [hy134]; with_reducible exact H) | (have H2_ := (Option.bind_some _ _).symm.trans H; rw [hy134]; with_reducible exact H2_) | (have H2_ := (Option.bind_some _ _).symm.trans H; with_reducible exact H2_) | with_reducible exact H | (rw [hy134]; exact H) | exact H
 have Ny134 := mA hy134; clear hy134; have H' := mA H; clear H; go_enter Tryd.func50, Tryd.ntmps50; go_wp2_with (first | ((with_reducible refine gate_dst (N := 15) rfl ?_); refine Kd.R_lit (Kd.int .u8) _ 5 ?hg (N := 15) ?hd (xs := ([] : List Int)) (inner := []) (ok := fun _ => True) (okp := fun _ => True) ?hr ?hp (fun _ hk => hk) trivial (Below.refl _ _) (Nat.le_refl _) (by simp) ?_; (case hd => rfl); (case hg => rfl); (case hr => first | (go_simp; done) | (go_simp; rfl)); (case hp => exact (Reps.none _ _)); intro v135 w7 ho8 hb hg_ hnew_; clear hg_ hnew_; (first | rw [← Ny134.out] at ho8 | (simp only [Int.reduceToNat] at ho8; rw [← Ny134.out] at ho8)); have HO136 := mA (Kd.R_lower ho8 (below_size z1)); replace HB := mA (below_step z1 hb); clear hb ho8)); go_loopg [13, 17] k (fun kq v13 v17 w' => ∃ (x13_1 : List Int) (x17_1 : Int), v17 = .int .i64 x17_1 ∧ Aside0 (impl_steps.l0 kq a0 a1 a2 a4 a5 x13_1 a3 x17_1 = some r) ∧ Aside0 (kq ≤ k) ∧ Aside0 (Kd.R (Kd.int .u8) 5 w' w.heap.size (fun _ => True) v13 x13_1) ∧ Aside0 (Below w.heap.size w w'))
 case atStart => exact ⟨(y134), (0), z3, H', ⟨Nat.le_refl _⟩, ⟨z5 HO136⟩, ⟨z1⟩⟩
 case round =>
  clear H'; (try clear p2); (try clear c5); obtain ⟨x13_1, x17_1, rfl, HA, HK1, HO_13, HB⟩ := hrel
  cases gk with
  | zero => exact absurd HA.out (by simp [impl_steps.l0])
  | succ k1 =>
   have H := HA.out; clear HA; simp only [impl_steps.l0] at H; refine sqC (x17_1 < a3) (fun c9 => ?_) (fun c9 => ?_)
   ·rw [if_neg c9] at H; replace c9 := decide_eq_false c9; obtain rfl := Option.some.inj H; have hcv17 := own_string (P := Tryd.prog) Tryd.underlying34 Tryd.underlying5 Tryd.underlying9 (Kd.own_of_R HO_13.out); go_wp2; go_ret; exact ⟨z7, z1⟩
   rw [if_pos c9] at H; replace c9 := decide_eq_true c9; obtain ⟨t137, A10, H⟩ := sqB H; obtain ⟨t138, A11, H⟩ := sqB H; by_cases c12 : t137 > t138
   ·rw [if_pos c12] at H; replace c12 := decide_eq_true c12; obtain ⟨c13, H⟩ := sqI H; have LMc13 := mA c13; clear c13; obtain ⟨y139, hy139⟩ : ∃ y_ : List Int, y_ = (x13_1 ++ [a4]) := ⟨_, rfl⟩
    replace H : (impl_steps.l0 k1 a0 a1 a2 a4 a5 y139 a3 (wrap64 (x17_1 + 1))) = some r := by first | (rw [hy139]; with_reducible exact H) | (have H2_ := (Option.bind_some _ _).symm.trans H; rw [hy139]; with_reducible exact H2_) | (have H2_ := (Option.bind_some _ _).symm.trans H; with_reducible exact H2_) | with_reducible exact H | (rw [hy139]; exact H) | exact H
    have Ny139 := mA hy139; clear hy139; have H' := mA H; clear H; go_wp2_with (first | (refine sqG 52 (some 27) Tryd.func52 #[.int .i64 (wrap64 ((wrap64 ((wrap64 (x17_1 + 1)) * a0)) + a2)), .int .i64 a1] (h := ?_); (with_reducible refine (impl_floor.calls (wrap64 ((wrap64 ((wrap64 (x17_1 + 1)) * a0)) + a2)) a1 t137 _ A10.out).mono ?_); rintro e w' ⟨rfl, ⟨nd, rfl⟩⟩; refine ⟨_, rfl, ?_⟩) | (refine sqG 52 (some 34) Tryd.func52 #[.int .i64 (wrap64 ((wrap64 (x17_1 * a0)) + a2)), .int .i64 a1] (h := ?_); (with_reducible refine (impl_floor.calls (wrap64 ((wrap64 (x17_1 * a0)) + a2)) a1 t138 _ A11.out).mono ?_); rintro e w' ⟨rfl, ⟨nd, rfl⟩⟩; refine ⟨_, rfl, ?_⟩) | ((with_reducible refine gate_builtin (b := .append) (xs := #[.tmp 36, .tmp 38]) rfl ?_); at_builtin; refine Kd.R_append (Kd.int .u8) (w0 := w) w.heap.size rfl (.tmp 36) (.tmp 38) 34 5 (.int .u8 0) 1 rfl Tryd.underlying34 info5 rfl (by decide) (by omega) u13 x13_1 a4 [.int .u8 a4] (fun _ => True) (fun _ => False) rfl rfl ?aP (fun _ hk => hk.elim) ?aF ?aO ?aB ?aS ?aL ?_; (case aP => exact rfl); (case aB => exact z1); (case aF => exact (fun _ _ => trivial)); (case aO => exact (z5 HO_13)); (case aS => exact (below_size z1)); (case aL => have := LMc13.out; omega); intro v140 w14 ho hb hg hat; rw [← Ny139.out] at ho; replace HB := mA (hb); have HO141 := mA (ho); clear HO_13 ho hb hg hat)); go_roundg k1
    case measure => have := HK1.out; omega
    case rel => exact ⟨(y139), (wrap64 (x17_1 + 1)), z3, H', ⟨by have := HK1.out; omega⟩, ⟨z5 HO141⟩, ⟨z1⟩⟩
   rw [if_neg c12] at H; replace c12 := decide_eq_false c12; obtain ⟨c15, H⟩ := sqI H; have LMc15 := mA c15; clear c15; obtain ⟨y142, hy142⟩ : ∃ y_ : List Int, y_ = (x13_1 ++ [a5]) := ⟨_, rfl⟩
   replace H : (impl_steps.l0 k1 a0 a1 a2 a4 a5 y142 a3 (wrap64 (x17_1 + 1))) = some r := by first | (rw [hy142]; with_reducible exact H) | (have H2_ := (Option.bind_some _ _).symm.trans H; rw [hy142]; with_reducible exact H2_) | (have H2_ := (Option.bind_some _ _).symm.trans H; with_reducible exact H2_) | with_reducible exact H | (rw [hy142]; exact H) | exact H
   have Ny142 := mA hy142; clear hy142; have H' := mA H; clear H; go_wp2_with (first | (refine sqG 52 (some 27) Tryd.func52 #[.int .i64 (wrap64 ((wrap64 ((wrap64 (x17_1 + 1)) * a0)) + a2)), .int .i64 a1] (h := ?_); (with_reducible refine (impl_floor.calls (wrap64 ((wrap64 ((wrap64 (x17_1 + 1)) * a0)) + a2)) a1 t137 _ A10.out).mono ?_); rintro e w' ⟨rfl, ⟨nd, rfl⟩⟩; refine ⟨_, rfl, ?_⟩) | (refine sqG 52 (some 34) Tryd.func52 #[.int .i64 (wrap64 ((wrap64 (x17_1 * a0)) + a2)), .int .i64 a1] (h := ?_); (with_reducible refine (impl_floor.calls (wrap64 ((wrap64 (x17_1 * a0)) + a2)) a1 t138 _ A11.out).mono ?_); rintro e w' ⟨rfl, ⟨nd, rfl⟩⟩; refine ⟨_, rfl, ?_⟩) | ((with_reducible refine gate_builtin (b := .append) (xs := #[.tmp 40, .tmp 42]) rfl ?_); at_builtin; refine Kd.R_append (Kd.int .u8) (w0 := w) w.heap.size rfl (.tmp 40) (.tmp 42) 34 5 (.int .u8 0) 1 rfl Tryd.underlying34 info5 rfl (by decide) (by omega) u13 x13_1 a5 [.int .u8 a5] (fun _ => True) (fun _ => False) rfl rfl ?aP (fun _ hk => hk.elim) ?aF ?aO ?aB ?aS ?aL ?_; (case aP => exact rfl); (case aB => exact z1); (case aF => exact (fun _ _ => trivial)); (case aO => exact (z5 HO_13)); (case aS => exact (below_size z1)); (case aL => have := LMc15.out; omega); intro v143 w16 ho hb hg hat; rw [← Ny142.out] at ho; replace HB := mA (hb); have HO144 := mA (ho); clear HO_13 ho hb hg hat)); go_roundg k1
   case measure => have := HK1.out; omega
   case rel => exact ⟨(y142), (wrap64 (x17_1 + 1)), z3, H', ⟨by have := HK1.out; omega⟩, ⟨z5 HO144⟩, ⟨z1⟩⟩

/-! ### impl_LineWord: function 29 -/
def impl_LineWord.f (k : Nat) (a0 : Int) (a1 : Int) (a2 : Int) (a3 : Int) : Option (ByteArray × Bool) := (impl_within.f a1 1 1000).bind fun t145 => (if t145 = true then ((impl_within.f a0 0 a1).bind fun t146 => (if t146 = true then ((impl_within.f a2 0 (wrap64 (a1 - 1))).bind fun t147 => (if t147 = true then ((impl_within.f a3 0 120).bind fun t148 => (if t148 = true then ((impl_steps.f k a0 a1 a2 a3 98 97).bind fun t149 => (some (t149, true))) else (some ((⟨#[]⟩ : ByteArray), false)))) else (some ((⟨#[]⟩ : ByteArray), false)))) else (some ((⟨#[]⟩ : ByteArray), false)))) else (some ((⟨#[]⟩ : ByteArray), false)))
theorem impl_LineWord.mono : ∀ a0 a1 a2 a3 k, LeO (impl_LineWord.f k a0 a1 a2 a3) (impl_LineWord.f (k + 1) a0 a1 a2 a3) := by
  intro a0 a1 a2 a3 k
  unfold impl_LineWord.f
  repeat' first | (with_reducible first | apply impl_steps.mono | exact LeO.refl _ | exact LeO.none _ | refine LeO.ite ?_ ?_ | refine LeO.bind ?_ (fun _ => ?_)) | apply impl_steps.mono | exact LeO.none _ | refine LeO.ite ?_ ?_ | refine LeO.bind ?_ (fun _ => ?_)
set_option maxHeartbeats 8000000 in
set_option maxRecDepth 100000 in
theorem impl_LineWord.calls (k : Nat) (a0 : Int) (a1 : Int) (a2 : Int) (a3 : Int) (r1 : ByteArray) (r2 : Bool) (w : World) (h : impl_LineWord.f k a0 a1 a2 a3 = some (r1, r2)) :
    Calls Tryd.prog 29 #[.int .i64 a0, .int .i64 a1, .int .i64 a2, .int .i64 a3] w fun e w' => e = .returned (.tuple #[.string r1, .bool r2]) ∧ Below w.heap.size w w' := by
 have HB := mA (Below.refl w.heap.size w); have H : ((impl_within.f a1 1 1000).bind fun t145 => (if t145 = true then ((impl_within.f a0 0 a1).bind fun t146 => (if t146 = true then ((impl_within.f a2 0 (wrap64 (a1 - 1))).bind fun t147 => (if t147 = true then ((impl_within.f a3 0 120).bind fun t148 => (if t148 = true then ((impl_steps.f k a0 a1 a2 a3 98 97).bind fun t149 => (some (t149, true))) else (some ((⟨#[]⟩ : ByteArray), false)))) else (some ((⟨#[]⟩ : ByteArray), false)))) else (some ((⟨#[]⟩ : ByteArray), false)))) else (some ((⟨#[]⟩ : ByteArray), false)))) = some (r1, r2) := h; clear h; obtain ⟨t145, A5, H⟩ := sqB H; refine sqC (t145 = true) (fun c6 => ?_) (fun c6 => ?_)
 ·replace c6 := Bool.eq_false_iff.mpr c6; subst c6; rw [if_neg (show ¬ (false = true) by decide)] at H; simp only [Option.some.injEq, Prod.mk.injEq] at H; obtain ⟨rfl, rfl⟩ := H; go_enter Tryd.func29, Tryd.ntmps29; go_wp2_with (first | (refine sqG 49 (some 11) Tryd.func49 #[.int .i64 a1, .int .i64 1, .int .i64 1000] (h := ?_); (with_reducible refine (impl_within.calls a1 1 1000 false _ A5.out).mono ?_); rintro e w' ⟨rfl, ⟨nd, rfl⟩⟩; refine ⟨_, rfl, ?_⟩)); go_ret2; exact ⟨z7, z1⟩
 subst c6; rw [if_pos rfl] at H; obtain ⟨t146, A7, H⟩ := sqB H; refine sqC (t146 = true) (fun c8 => ?_) (fun c8 => ?_)
 ·replace c8 := Bool.eq_false_iff.mpr c8; subst c8; rw [if_neg (show ¬ (false = true) by decide)] at H; simp only [Option.some.injEq, Prod.mk.injEq] at H; obtain ⟨rfl, rfl⟩ := H; go_enter Tryd.func29, Tryd.ntmps29; go_wp2_with (first | (refine sqG 49 (some 11) Tryd.func49 #[.int .i64 a1, .int .i64 1, .int .i64 1000] (h := ?_); (with_reducible refine (impl_within.calls a1 1 1000 true _ A5.out).mono ?_); rintro e w' ⟨rfl, ⟨nd, rfl⟩⟩; refine ⟨_, rfl, ?_⟩) | (go_at_call 49; (with_reducible refine (impl_within.calls a0 0 a1 false _ A7.out).mono ?_); rintro e w' ⟨rfl, ⟨nd, rfl⟩⟩)); go_ret2; exact ⟨z7, z1⟩
 subst c8; rw [if_pos rfl] at H; obtain ⟨t147, A9, H⟩ := sqB H; refine sqC (t147 = true) (fun c10 => ?_) (fun c10 => ?_)
 ·replace c10 := Bool.eq_false_iff.mpr c10; subst c10; rw [if_neg (show ¬ (false = true) by decide)] at H; simp only [Option.some.injEq, Prod.mk.injEq] at H; obtain ⟨rfl, rfl⟩ := H; go_enter Tryd.func29, Tryd.ntmps29; go_wp2_with (first | (refine sqG 49 (some 11) Tryd.func49 #[.int .i64 a1, .int .i64 1, .int .i64 1000] (h := ?_); (with_reducible refine (impl_within.calls a1 1 1000 true _ A5.out).mono ?_); rintro e w' ⟨rfl, ⟨nd, rfl⟩⟩; refine ⟨_, rfl, ?_⟩) | (go_at_call 49; (with_reducible refine (impl_within.calls a0 0 a1 true _ A7.out).mono ?_); rintro e w' ⟨rfl, ⟨nd, rfl⟩⟩) | (go_at_call 49; (with_reducible refine (impl_within.calls a2 0 (wrap64 (a1 - 1)) false _ A9.out).mono ?_); rintro e w' ⟨rfl, ⟨nd, rfl⟩⟩)); go_ret2; exact ⟨z7, z1⟩
 subst c10; rw [if_pos rfl] at H; obtain ⟨t148, A11, H⟩ := sqB H; refine sqC (t148 = true) (fun c12 => ?_) (fun c12 => ?_)
 ·replace c12 := Bool.eq_false_iff.mpr c12; subst c12; rw [if_neg (show ¬ (false = true) by decide)] at H; simp only [Option.some.injEq, Prod.mk.injEq] at H; obtain ⟨rfl, rfl⟩ := H; go_enter Tryd.func29, Tryd.ntmps29; go_wp2_with (first | (refine sqG 49 (some 11) Tryd.func49 #[.int .i64 a1, .int .i64 1, .int .i64 1000] (h := ?_); (with_reducible refine (impl_within.calls a1 1 1000 true _ A5.out).mono ?_); rintro e w' ⟨rfl, ⟨nd, rfl⟩⟩; refine ⟨_, rfl, ?_⟩) | (go_at_call 49; (with_reducible refine (impl_within.calls a0 0 a1 true _ A7.out).mono ?_); rintro e w' ⟨rfl, ⟨nd, rfl⟩⟩) | (go_at_call 49; (with_reducible refine (impl_within.calls a2 0 (wrap64 (a1 - 1)) true _ A9.out).mono ?_); rintro e w' ⟨rfl, ⟨nd, rfl⟩⟩) | (go_at_call 49; (with_reducible refine (impl_within.calls a3 0 120 false _ A11.out).mono ?_); rintro e w' ⟨rfl, ⟨nd, rfl⟩⟩)); go_ret2; exact ⟨z7, z1⟩
 subst c12; rw [if_pos rfl] at H; obtain ⟨t149, A13, H⟩ := sqB H; simp only [Option.some.injEq, Prod.mk.injEq] at H; obtain ⟨rfl, rfl⟩ := H; go_enter Tryd.func29, Tryd.ntmps29; go_wp2_with (first | (refine sqG 49 (some 11) Tryd.func49 #[.int .i64 a1, .int .i64 1, .int .i64 1000] (h := ?_); (with_reducible refine (impl_within.calls a1 1 1000 true _ A5.out).mono ?_); rintro e w' ⟨rfl, ⟨nd, rfl⟩⟩; refine ⟨_, rfl, ?_⟩) | (go_at_call 49; (with_reducible refine (impl_within.calls a0 0 a1 true _ A7.out).mono ?_); rintro e w' ⟨rfl, ⟨nd, rfl⟩⟩) | (go_at_call 49; (with_reducible refine (impl_within.calls a2 0 (wrap64 (a1 - 1)) true _ A9.out).mono ?_); rintro e w' ⟨rfl, ⟨nd, rfl⟩⟩) | (go_at_call 49; (with_reducible refine (impl_within.calls a3 0 120 true _ A11.out).mono ?_); rintro e w' ⟨rfl, ⟨nd, rfl⟩⟩) | (refine sqG 50 (some 35) Tryd.func50 #[.int .i64 a0, .int .i64 a1, .int .i64 a2, .int .i64 a3, .int .u8 98, .int .u8 97] (h := ?_); (with_reducible refine (impl_steps.calls k a0 a1 a2 a3 98 97 t149 _ A13.out).mono ?_); rintro e w14 ⟨rfl, hb⟩; refine ⟨_, rfl, ?_⟩; replace HB := mA (below_step z1 hb); (try clear hb))); go_ret2; exact ⟨z7, z1⟩

/-! ### impl_compare: function 61 -/
def impl_compare.f (a0 : Int) (a1 : Int) : Option (Int) := if a0 < a1 then (some (-1)) else (if a0 > a1 then (some 1) else (some 0))
set_option maxHeartbeats 8000000 in
set_option maxRecDepth 100000 in
theorem impl_compare.calls (a0 : Int) (a1 : Int) (r : Int) (w : World) (h : impl_compare.f a0 a1 = some r) :
    Calls Tryd.prog 61 #[.int .i64 a0, .int .i64 a1] w fun e w' => e = .returned (.int .i64 r) ∧ Drawn0 w w' := by
 have H : (if a0 < a1 then (some (-1)) else (if a0 > a1 then (some 1) else (some 0))) = some r := h; clear h; by_cases c3 : a0 < a1
 ·rw [if_pos c3] at H; replace c3 := decide_eq_true c3; obtain rfl := Option.some.inj H; go_enter Tryd.func61, Tryd.ntmps61; go_wp2; go_ret; exact ⟨z3, z6⟩
 rw [if_neg c3] at H; replace c3 := decide_eq_false c3; by_cases c4 : a0 > a1
 ·rw [if_pos c4] at H; replace c4 := decide_eq_true c4; obtain rfl := Option.some.inj H; go_enter Tryd.func61, Tryd.ntmps61; go_wp2; go_ret; exact ⟨z3, z6⟩
 rw [if_neg c4] at H; replace c4 := decide_eq_false c4; obtain rfl := Option.some.inj H; go_enter Tryd.func61, Tryd.ntmps61; go_wp2; go_ret; exact ⟨z3, z6⟩

/-! ### impl_worth_against: function 42 -/
def impl_worth_against.j0 : Nat → Bool → Int → Int → Int → Int → Option (Int)
  | 0, _, _, _, _, _ => none
  | k + 1, x5, x151000, x151001, x152000, x152001 => if x5 = true then ((impl_compare.f x151000 x152000).bind fun t152 => (some t152)) else (if x151001 = 0 then (some 1) else (if x152001 = 0 then (some (-1)) else ((impl_compare.f (wrap64 (x151000 * x152001)) (wrap64 (x152000 * x151001))).bind fun t153 => (some t153))))
def impl_worth_against.f (k : Nat) (a0_0 : Int) (a0_1 : Int) (a1_0 : Int) (a1_1 : Int) : Option (Int) := if a0_1 = 0 then (impl_worth_against.j0 k (a1_1 == 0) a0_0 a0_1 a1_0 a1_1) else (impl_worth_against.j0 k false a0_0 a0_1 a1_0 a1_1)
theorem impl_worth_against.mono_l : ∀ k, (∀ y0 y1 y2 y3 y4, LeO (impl_worth_against.j0 k y0 y1 y2 y3 y4) (impl_worth_against.j0 (k + 1) y0 y1 y2 y3 y4))
  | 0 => fun _ _ _ _ _ r h => by simp [impl_worth_against.j0] at h
  | k + 1 => by
   have ih0 := impl_worth_against.mono_l k
   intros
   unfold impl_worth_against.j0
   all_goals repeat' first | (with_reducible first | apply ih0 | exact LeO.refl _ | exact LeO.none _ | refine LeO.ite ?_ ?_ | refine LeO.bind ?_ (fun _ => ?_)) | apply ih0 | exact LeO.none _ | refine LeO.ite ?_ ?_ | refine LeO.bind ?_ (fun _ => ?_)
theorem impl_worth_against.mono : ∀ a0 a1 a2 a3 k, LeO (impl_worth_against.f k a0 a1 a2 a3) (impl_worth_against.f (k + 1) a0 a1 a2 a3) := by
  intro a0 a1 a2 a3 k
  have ih0 := impl_worth_against.mono_l k
  unfold impl_worth_against.f
  repeat' first | (with_reducible first | apply ih0 | exact LeO.refl _ | exact LeO.none _ | refine LeO.ite ?_ ?_ | refine LeO.bind ?_ (fun _ => ?_)) | apply ih0 | exact LeO.none _ | refine LeO.ite ?_ ?_ | refine LeO.bind ?_ (fun _ => ?_)
set_option maxHeartbeats 8000000 in
set_option maxRecDepth 100000 in
theorem impl_worth_against.calls (k : Nat) (a0_0 : Int) (a0_1 : Int) (a1_0 : Int) (a1_1 : Int) (r : Int) (w : World) (h : impl_worth_against.f k a0_0 a0_1 a1_0 a1_1 = some r) :
    Calls Tryd.prog 42 #[.agg #[.int .i64 a0_0, .int .i64 a0_1], .agg #[.int .i64 a1_0, .int .i64 a1_1]] w fun e w' => e = .returned (.int .i64 r) ∧ Below w.heap.size w w' := by
 have hu49 := Tryd.underlying49; have HB := mA (Below.refl w.heap.size w); have H : (if a0_1 = 0 then (impl_worth_against.j0 k (a1_1 == 0) a0_0 a0_1 a1_0 a1_1) else (impl_worth_against.j0 k false a0_0 a0_1 a1_0 a1_1)) = some r := h; clear h; have HC3 := mA H; clear H; go_enter Tryd.func42, Tryd.ntmps42
 go_upto_region 1 with (first | (refine sqX 2 #[.int .i64 a0_0, .int .i64 a0_1] 49 ?_; intro gb150 hg w4 hbox hb; have BK150 := mA (hbox); have GW150 := mA ((z14 : w.heap.size ≤ gb150)); have GE150 := mA ((z14 : w.heap.size ≤ gb150)); replace HB := mA (below_step z1 hb); clear hb hbox hg) | (refine sqX 3 #[.int .i64 a1_0, .int .i64 a1_1] 49 ?_; intro gb151 hg w5 hbox hb; have BK151 := mA (hbox); have GW151 := mA ((z8 : w.heap.size ≤ gb151)); have GE151 := mA ((z8 : w.heap.size ≤ gb151)); replace HB := mA (below_step z2 hb); have NB150_151 := mA ((by rw [hg]; exact Nat.ne_of_lt (blk_lt (g := gb150) (o := .cells #[.int .i64 a0_0, .int .i64 a0_1] 49 (0, 0)) (z0 BK150)) : gb150 ≠ gb151)); have NB151_150 := mA ((by rw [hg]; exact Nat.ne_of_gt (blk_lt (g := gb150) (o := .cells #[.int .i64 a0_0, .int .i64 a0_1] 49 (0, 0)) (z0 BK150)) : gb151 ≠ gb150)); replace BK150 := mA (blk_below (g := gb150) (o := .cells #[.int .i64 a0_0, .int .i64 a0_1] 49 (0, 0)) (z0 BK150) hb); clear hb hbox hg))
 (try simp only [Act.put, List.setIfInBounds_toArray, List.set_cons_zero, List.set_cons_succ]); go_cut [5] (fun v5 wc => ∃ (kq : Nat) (x5_2 : Bool), v5 = .bool x5_2 ∧ Aside0 (impl_worth_against.j0 kq x5_2 a0_0 a0_1 a1_0 a1_1 = some r) ∧ Aside0 (kq ≤ k) ∧ Aside0 (wc.heap[gb150]? = some (.cells #[.int .i64 a0_0, .int .i64 a0_1] 49 (0, 0))) ∧ Aside0 (wc.heap[gb151]? = some (.cells #[.int .i64 a1_0, .int .i64 a1_1] 49 (0, 0))) ∧ Aside0 (Below w.heap.size w wc))
 case first =>
  have H := HC3.out; clear HC3; refine sqC (a0_1 = 0) (fun c6 => ?_) (fun c6 => ?_)
  ·rw [if_neg c6] at H; have c6b0 : (a0_1 == 0) = false := beq_eq_false_iff_ne.mpr c6; have c6b1 : (a0_1 != 0) = true := bne_iff_ne.mpr c6; (first | rw [c6b0] | (simp only [i64_w, i32_w]; rw [c6b0]) | skip); have H' := mA H; clear H; have hnb10 := NB150_151.out; have hnc10 := NB151_150.out; have hcz11_0 := sqZ0 BK150; have hcz11_1 := sqZ1 BK150; have hfz11_0 := blk_frozen BK150.out 0; have hfz11_1 := blk_frozen BK150.out 1; go_wp2; go_meet
   case rel => exact ⟨_, (false), z3, H', ⟨by first | omega | exact Nat.le_refl _⟩, ⟨z0 BK150⟩, ⟨z0 BK151⟩, ⟨z2⟩⟩
  rw [if_pos c6] at H; have c6b0 : (a0_1 == 0) = true := beq_iff_eq.mpr c6; have c6b1 : (a0_1 != 0) = false := bne_eq_false_iff_eq.mpr c6; clear c6; (first | rw [c6b0] | (simp only [i64_w, i32_w]; rw [c6b0]) | skip); have H' := mA H; clear H; have hnb7 := NB150_151.out; have hnc7 := NB151_150.out; have hcz8_0 := sqZ0 BK150; have hcz8_1 := sqZ1 BK150; have hfz8_0 := blk_frozen BK150.out 0; have hfz8_1 := blk_frozen BK150.out 1; have hcz9_0 := sqZ0 BK151; have hcz9_1 := sqZ1 BK151; have hfz9_0 := blk_frozen BK151.out 0; have hfz9_1 := blk_frozen BK151.out 1; go_wp2; go_meet
  case rel => exact ⟨_, ((a1_1 == 0)), z3, H', ⟨by first | omega | exact Nat.le_refl _⟩, ⟨z0 BK150⟩, ⟨z0 BK151⟩, ⟨z2⟩⟩
 case rest =>
  clear HC3; (try clear c1); (try clear p2); (try clear c4); (try clear c6); (try clear c6b0); (try clear c6b1); (try clear c7); (try clear c10); (try clear hcz11_0); (try clear hcz11_1); (try clear hcz8_0); (try clear hcz8_1); (try clear hcz9_0); (try clear hcz9_1); (try clear hfz11_0); (try clear hfz11_1); (try clear hfz8_0); (try clear hfz8_1); (try clear hfz9_0); (try clear hfz9_1); obtain ⟨kq, x5_2, rfl, HA, HJ2, BK150, BK151, HB⟩ := hcut
  cases kq with
  | zero => exact absurd HA.out (by simp [impl_worth_against.j0])
  | succ kj2 =>
   have H := HA.out; clear HA; simp only [impl_worth_against.j0] at H; by_cases c12 : x5_2 = true
   ·subst c12; rw [if_pos rfl] at H; obtain ⟨t152, A13, H⟩ := sqB H; obtain rfl := Option.some.inj H; have hnb14 := NB150_151.out; have hnc14 := NB151_150.out; have hcz15_0 := sqZ0 BK150; have hcz15_1 := sqZ1 BK150; have hfz15_0 := blk_frozen BK150.out 0; have hfz15_1 := blk_frozen BK150.out 1; have hcz16_0 := sqZ0 BK151; have hcz16_1 := sqZ1 BK151; have hfz16_0 := blk_frozen BK151.out 0; have hfz16_1 := blk_frozen BK151.out 1; go_wp2_with (first | (refine sqG 61 (some 18) Tryd.func61 #[.int .i64 a0_0, .int .i64 a1_0] (h := ?_); (with_reducible refine (impl_compare.calls a0_0 a1_0 t152 _ A13.out).mono ?_); rintro e w' ⟨rfl, ⟨nd, rfl⟩⟩; refine ⟨_, rfl, ?_⟩)); go_ret; exact ⟨z7, z2⟩
   replace c12 := Bool.eq_false_iff.mpr c12; subst c12; rw [if_neg (show ¬ (false = true) by decide)] at H; by_cases c17 : a0_1 = 0
   ·rw [if_pos c17] at H; have c17b0 : (a0_1 == 0) = true := beq_iff_eq.mpr c17; have c17b1 : (a0_1 != 0) = false := bne_eq_false_iff_eq.mpr c17; clear c17; obtain rfl := Option.some.inj H; have hnb18 := NB150_151.out; have hnc18 := NB151_150.out; have hcz19_0 := sqZ0 BK150; have hcz19_1 := sqZ1 BK150; have hfz19_0 := blk_frozen BK150.out 0; have hfz19_1 := blk_frozen BK150.out 1; go_wp2; go_ret; exact ⟨z7, z2⟩
   rw [if_neg c17] at H; have c17b0 : (a0_1 == 0) = false := beq_eq_false_iff_ne.mpr c17; have c17b1 : (a0_1 != 0) = true := bne_iff_ne.mpr c17; by_cases c20 : a1_1 = 0
   ·rw [if_pos c20] at H; have c20b0 : (a1_1 == 0) = true := beq_iff_eq.mpr c20; have c20b1 : (a1_1 != 0) = false := bne_eq_false_iff_eq.mpr c20; clear c20; obtain rfl := Option.some.inj H; have hnb21 := NB150_151.out; have hnc21 := NB151_150.out; have hcz22_0 := sqZ0 BK150; have hcz22_1 := sqZ1 BK150; have hfz22_0 := blk_frozen BK150.out 0; have hfz22_1 := blk_frozen BK150.out 1; have hcz23_0 := sqZ0 BK151; have hcz23_1 := sqZ1 BK151; have hfz23_0 := blk_frozen BK151.out 0; have hfz23_1 := blk_frozen BK151.out 1; go_wp2; go_ret; exact ⟨z7, z2⟩
   rw [if_neg c20] at H; have c20b0 : (a1_1 == 0) = false := beq_eq_false_iff_ne.mpr c20; have c20b1 : (a1_1 != 0) = true := bne_iff_ne.mpr c20; obtain ⟨t153, A24, H⟩ := sqB H; obtain rfl := Option.some.inj H; have hnb25 := NB150_151.out; have hnc25 := NB151_150.out; have hcz26_0 := sqZ0 BK150; have hcz26_1 := sqZ1 BK150; have hfz26_0 := blk_frozen BK150.out 0; have hfz26_1 := blk_frozen BK150.out 1; have hcz27_0 := sqZ0 BK151; have hcz27_1 := sqZ1 BK151; have hfz27_0 := blk_frozen BK151.out 0; have hfz27_1 := blk_frozen BK151.out 1; go_wp2_with (first | (refine sqG 61 (some 37) Tryd.func61 #[.int .i64 (wrap64 (a0_0 * a1_1)), .int .i64 (wrap64 (a1_0 * a0_1))] (h := ?_); (with_reducible refine (impl_compare.calls (wrap64 (a0_0 * a1_1)) (wrap64 (a1_0 * a0_1)) t153 _ A24.out).mono ?_); rintro e w' ⟨rfl, ⟨nd, rfl⟩⟩; refine ⟨_, rfl, ?_⟩)); go_ret; exact ⟨z7, z2⟩

end Go.Proofs.YtkmghekffehimaaDoor.PFnExactLineFor
