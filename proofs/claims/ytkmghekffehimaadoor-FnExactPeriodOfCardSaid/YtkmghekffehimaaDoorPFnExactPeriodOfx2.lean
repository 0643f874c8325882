/- Written by this session's program (wip/tool/xprint.py) over the kit's printer. -/
import Derived.Test.YtkmghekffehimaaDoorPFnExactPeriodOfx0
import Derived.Test.YtkmghekffehimaaDoorPFnExactPeriodOfx1
namespace Go.Proofs.YtkmghekffehimaaDoor.PFnExactPeriodOf
open Go.RowKit Go.Proofs.YtkmghekffehimaaDoorW.PrintWords Go.Proofs.YtkmghekffehimaaDoorW.PrintLast Go.Proofs.YtkmghekffehimaaDoorW.PrintMore
attribute [local go_sem] max2_int min2_int max_two min_two max_three min_three max_four min_four   -- for this text's walks alone
set_option linter.unusedVariables false
set_option linter.unusedSimpArgs false

/-! ### impl_PeriodOf: function 14 -/
def impl_PeriodOf.l0 : Nat → ByteArray → Int → Option (Int × Bool)
  | 0, _, _ => none
  | k + 1, x0, x4 => if x4 < (x0.size : Int) then (if 0 ≤ x4 then (if x4 ≤ (x0.size : Int) then (if 0 ≤ (wrap64 ((x0.size : Int) - x4)) then (if (wrap64 ((x0.size : Int) - x4)) ≤ (x0.size : Int) then (if (x0.extract (x4 : Int).toNat x0.size).toList = (x0.extract 0 ((wrap64 ((x0.size : Int) - x4)) : Int).toNat).toList then (some (x4, true)) else (impl_PeriodOf.l0 k x0 (wrap64 (x4 + 1)))) else (none)) else (none)) else (none)) else (none)) else (some (x4, true))
def impl_PeriodOf.f (k : Nat) (a0 : ByteArray) : Option (Int × Bool) := (impl_IsWord.f a0).bind fun t106 => (if t106 = true then (impl_PeriodOf.l0 k a0 1) else (some (0, false)))
theorem impl_PeriodOf.mono_l : ∀ k, (∀ y0 y1, LeO (impl_PeriodOf.l0 k y0 y1) (impl_PeriodOf.l0 (k + 1) y0 y1))
  | 0 => fun _ _ r h => by simp [impl_PeriodOf.l0] at h
  | k + 1 => by
   have ih0 := impl_PeriodOf.mono_l k
   intros
   unfold impl_PeriodOf.l0
   all_goals repeat' first | (with_reducible first | apply ih0 | exact LeO.refl _ | exact LeO.none _ | refine LeO.ite ?_ ?_ | refine LeO.bind ?_ (fun _ => ?_)) | apply ih0 | exact LeO.none _ | refine LeO.ite ?_ ?_ | refine LeO.bind ?_ (fun _ => ?_)
theorem impl_PeriodOf.mono : ∀ a0 k, LeO (impl_PeriodOf.f k a0) (impl_PeriodOf.f (k + 1) a0) := by
  intro a0 k
  have ih0 := impl_PeriodOf.mono_l k
  unfold impl_PeriodOf.f
  repeat' first | (with_reducible first | apply ih0 | exact LeO.refl _ | exact LeO.none _ | refine LeO.ite ?_ ?_ | refine LeO.bind ?_ (fun _ => ?_)) | apply ih0 | exact LeO.none _ | refine LeO.ite ?_ ?_ | refine LeO.bind ?_ (fun _ => ?_)
set_option maxHeartbeats 8000000 in
set_option maxRecDepth 100000 in
theorem impl_PeriodOf.calls (k : Nat) (a0 : ByteArray) (r1 : Int) (r2 : Bool) (w : World) (h : impl_PeriodOf.f k a0 = some (r1, r2)) :
    Calls Tryd.prog 14 #[.string a0] w fun e w' => e = .returned (.tuple #[.int .i64 r1, .bool r2]) ∧ Below w.heap.size w w' := by
 have HB := mA (Below.refl w.heap.size w); have H : ((impl_IsWord.f a0).bind fun t106 => (if t106 = true then (impl_PeriodOf.l0 k a0 1) else (some (0, false)))) = some (r1, r2) := h; clear h; obtain ⟨t106, A2, H⟩ := sqB H; refine sqC (t106 = true) (fun c3 => ?_) (fun c3 => ?_)
 ·replace c3 := Bool.eq_false_iff.mpr c3; subst c3; rw [if_neg (show ¬ (false = true) by decide)] at H; simp only [Option.some.injEq, Prod.mk.injEq] at H; obtain ⟨rfl, rfl⟩ := H; go_enter Tryd.func14, Tryd.ntmps14; go_wp2_with (first | (go_at_call 12; (with_reducible refine (impl_IsWord.calls a0 false _ A2.out).mono ?_); rintro e w12 ⟨rfl, hb⟩; replace HB := mA (below_step z2 hb); (try clear hb)))
  repeat (go_quiet (first | (go_at_call 12; (with_reducible refine (impl_IsWord.calls a0 false _ A2.out).mono ?_); rintro e w12 ⟨rfl, hb⟩; replace HB := mA (below_step z2 hb); (try clear hb))); try go_wp2_with (first | (go_at_call 12; (with_reducible refine (impl_IsWord.calls a0 false _ A2.out).mono ?_); rintro e w12 ⟨rfl, hb⟩; replace HB := mA (below_step z2 hb); (try clear hb))))
  go_ret2; exact ⟨z3, z2⟩
 subst c3; rw [if_pos rfl] at H; have H' := mA H; clear H; go_enter Tryd.func14, Tryd.ntmps14; go_wp2_with (first | (go_at_call 12; (with_reducible refine (impl_IsWord.calls a0 true _ A2.out).mono ?_); rintro e w4 ⟨rfl, hb⟩; replace HB := mA (below_step z2 hb); (try clear hb)))
 repeat (go_quiet (first | (go_at_call 12; (with_reducible refine (impl_IsWord.calls a0 true _ A2.out).mono ?_); rintro e w4 ⟨rfl, hb⟩; replace HB := mA (below_step z2 hb); (try clear hb))); try go_wp2_with (first | (go_at_call 12; (with_reducible refine (impl_IsWord.calls a0 true _ A2.out).mono ?_); rintro e w4 ⟨rfl, hb⟩; replace HB := mA (below_step z2 hb); (try clear hb))))
 go_loopg [4] k (fun kq v4 w' => ∃ (x4_1 : Int), v4 = .int .i64 x4_1 ∧ Aside0 (impl_PeriodOf.l0 kq a0 x4_1 = some (r1, r2)) ∧ Aside0 (kq ≤ k) ∧ Aside0 (Below w.heap.size w w'))
 case atStart => exact ⟨(1), z1, H', ⟨Nat.le_refl _⟩, ⟨z2⟩⟩
 case round =>
  clear H'; (try clear c1); (try clear p2); (try clear c3); obtain ⟨x4_1, rfl, HA, HK1, HB⟩ := hrel
  cases gk with
  | zero => exact absurd HA.out (by simp [impl_PeriodOf.l0])
  | succ k1 =>
   have H := HA.out; clear HA; simp only [impl_PeriodOf.l0] at H; refine sqC (x4_1 < (a0.size : Int)) (fun c5 => ?_) (fun c5 => ?_)
   ·rw [if_neg c5] at H; replace c5 := decide_eq_false c5; simp only [Option.some.injEq, Prod.mk.injEq] at H; obtain ⟨rfl, rfl⟩ := H; go_wp2
    repeat (go_quiet (fail); try go_wp2)
    go_ret2; exact ⟨z3, z2⟩
   rw [if_pos c5] at H; replace c5 := decide_eq_true c5; obtain ⟨c6, H⟩ := sqI H; have c6b0 := eq_true c6; have c6b1 := decide_eq_true c6; clear c6; obtain ⟨c7, H⟩ := sqI H; have c7b0 := eq_true c7; have c7b1 := decide_eq_true c7; clear c7; obtain ⟨ji8, hji8⟩ : ∃ j_ : Int, (wrap64 ((a0.size : Int) - x4_1)) = j_ := ⟨_, rfl⟩
   replace H : (if 0 ≤ (ji8) then (if (ji8) ≤ (a0.size : Int) then (if (a0.extract (x4_1 : Int).toNat a0.size).toList = (a0.extract 0 ((ji8) : Int).toNat).toList then (some (x4_1, true)) else (impl_PeriodOf.l0 k1 a0 (wrap64 (x4_1 + 1)))) else (none)) else (none)) = some (r1, r2) := by first | (rw [hji8] at H; exact H) | (simp only [hji8] at H ⊢; exact H)
   have hji8w : (IntKind.i64.wrap ((a0.size : Int) - x4_1)) = ji8 := (i64_w _).trans hji8; obtain ⟨c9, H⟩ := sqI H; have c9b0 := eq_true c9; have c9b1 := decide_eq_true c9; clear c9; obtain ⟨c10, H⟩ := sqI H; have c10b0 := eq_true c10; have c10b1 := decide_eq_true c10; clear c10; refine sqC ((a0.extract (x4_1 : Int).toNat a0.size).toList = (a0.extract 0 ((ji8) : Int).toNat).toList) (fun c11 => ?_) (fun c11 => ?_)
   ·rw [if_neg c11] at H; have c11b0 : ((a0.extract (x4_1 : Int).toNat a0.size).toList == (a0.extract 0 ((ji8) : Int).toNat).toList) = false := beq_eq_false_iff_ne.mpr c11; have c11b1 : ((a0.extract (x4_1 : Int).toNat a0.size).toList != (a0.extract 0 ((ji8) : Int).toNat).toList) = true := bne_iff_ne.mpr c11; have H' := mA H; clear H; go_wp2
    repeat (go_quiet (fail); try go_wp2)
    go_roundg k1
    case measure => have := HK1.out; omega
    case rel => exact ⟨(wrap64 (x4_1 + 1)), z1, H', ⟨by have := HK1.out; omega⟩, ⟨z2⟩⟩
   rw [if_pos c11] at H; have c11b0 : ((a0.extract (x4_1 : Int).toNat a0.size).toList == (a0.extract 0 ((ji8) : Int).toNat).toList) = true := beq_iff_eq.mpr c11; have c11b1 : ((a0.extract (x4_1 : Int).toNat a0.size).toList != (a0.extract 0 ((ji8) : Int).toNat).toList) = false := bne_eq_false_iff_eq.mpr c11; clear c11; simp only [Option.some.injEq, Prod.mk.injEq] at H; obtain ⟨rfl, rfl⟩ := H; go_wp2
   repeat (go_quiet (fail); try go_wp2)
   go_ret2; exact ⟨by first | rfl | (simp [errW_none, errW_some] <;> rfl) | (simp only [← hji8]; first | rfl | (simp [errW_none, errW_some] <;> rfl)) | (simp [*, errW_none, errW_some] <;> rfl), z2⟩

/-! ### laws_FnExactPeriodOf: function 4 -/
def laws_FnExactPeriodOf.f (k : Nat) (a0 : ByteArray) : Option (Bool) := if (a0.size : Int) > 1048576 then (some true) else ((spec_PeriodOf.f k a0).bind fun bt107 => ((impl_PeriodOf.f k a0).bind fun bt109 => (if bt109.1 = bt107.1 then (if (bt109.2 != bt107.2) = true then (some false) else (some true)) else (some false))))
theorem laws_FnExactPeriodOf.mono : ∀ a0 k, LeO (laws_FnExactPeriodOf.f k a0) (laws_FnExactPeriodOf.f (k + 1) a0) := by
  intro a0 k
  unfold laws_FnExactPeriodOf.f
  repeat' first | (with_reducible first | apply impl_PeriodOf.mono | apply spec_PeriodOf.mono | exact LeO.refl _ | exact LeO.none _ | refine LeO.ite ?_ ?_ | refine LeO.bind ?_ (fun _ => ?_)) | apply impl_PeriodOf.mono | apply spec_PeriodOf.mono | exact LeO.none _ | refine LeO.ite ?_ ?_ | refine LeO.bind ?_ (fun _ => ?_)
set_option maxHeartbeats 8000000 in
set_option maxRecDepth 100000 in
theorem laws_FnExactPeriodOf.calls (k : Nat) (a0 : ByteArray) (r : Bool) (w : World) (h : laws_FnExactPeriodOf.f k a0 = some r) :
    Calls Tryd.prog 4 #[.string a0] w fun e w' => e = .returned (.bool r) ∧ Below w.heap.size w w' := by
 have HB := mA (Below.refl w.heap.size w); have H : (if (a0.size : Int) > 1048576 then (some true) else ((spec_PeriodOf.f k a0).bind fun bt107 => ((impl_PeriodOf.f k a0).bind fun bt109 => (if bt109.1 = bt107.1 then (if (bt109.2 != bt107.2) = true then (some false) else (some true)) else (some false))))) = some r := h; clear h; by_cases c2 : (a0.size : Int) > 1048576
 ·rw [if_pos c2] at H; have c2b0 := decide_eq_true c2; have c2b1 : decide (1048576 < a0.size) = true := decide_eq_true (by omega); clear c2; obtain rfl := Option.some.inj H; go_enter Tryd.func4, Tryd.ntmps4; go_wp2; go_ret; exact ⟨z3, z2⟩
 rw [if_neg c2] at H; have c2b0 := decide_eq_false c2; have c2b1 : decide (1048576 < a0.size) = false := decide_eq_false (by omega); clear c2; obtain ⟨⟨t107, t108⟩, A3, H⟩ := sqB H; dsimp only at H; obtain ⟨⟨t109, t110⟩, A4, H⟩ := sqB H; dsimp only at H; refine sqC (t109 = t107) (fun c5 => ?_) (fun c5 => ?_)
 ·rw [if_neg c5] at H; have c5b0 : (t109 == t107) = false := beq_eq_false_iff_ne.mpr c5; have c5b1 : (t109 != t107) = true := bne_iff_ne.mpr c5; obtain rfl := Option.some.inj H; go_enter Tryd.func4, Tryd.ntmps4; go_wp2_with (first | (refine sqG 13 (some 12) Tryd.func13 #[.string a0] (h := ?_); (with_reducible refine (spec_PeriodOf.calls k a0 t107 t108 _ A3.out).mono ?_); rintro e w' ⟨rfl, ⟨nd, rfl⟩⟩; refine ⟨_, rfl, ?_⟩) | (refine sqG 14 (some 17) Tryd.func14 #[.string a0] (h := ?_); (with_reducible refine (impl_PeriodOf.calls k a0 t109 t110 _ A4.out).mono ?_); rintro e w9 ⟨rfl, hb⟩; refine ⟨_, rfl, ?_⟩; replace HB := mA (below_step z2 hb); (try clear hb))); go_ret; exact ⟨z3, z2⟩
 rw [if_pos c5] at H; have c5b0 : (t109 == t107) = true := beq_iff_eq.mpr c5; have c5b1 : (t109 != t107) = false := bne_eq_false_iff_eq.mpr c5; clear c5; refine sqC ((t110 != t108) = true) (fun c6 => ?_) (fun c6 => ?_)
 ·rw [if_neg c6] at H
  have c6b0 : (t110 != t108) = false := by simpa using c6
  (try (have c6b1 : decide (t110 = t108) = true := by simpa using c6)); (try (have c6b2 : (t110 == t108) = true := by simpa using c6)); clear c6; obtain rfl := Option.some.inj H; go_enter Tryd.func4, Tryd.ntmps4; go_wp2_with (first | (refine sqG 13 (some 12) Tryd.func13 #[.string a0] (h := ?_); (with_reducible refine (spec_PeriodOf.calls k a0 t107 t108 _ A3.out).mono ?_); rintro e w' ⟨rfl, ⟨nd, rfl⟩⟩; refine ⟨_, rfl, ?_⟩) | (refine sqG 14 (some 17) Tryd.func14 #[.string a0] (h := ?_); (with_reducible refine (impl_PeriodOf.calls k a0 t109 t110 _ A4.out).mono ?_); rintro e w8 ⟨rfl, hb⟩; refine ⟨_, rfl, ?_⟩; replace HB := mA (below_step z2 hb); (try clear hb))); go_ret; exact ⟨z3, z2⟩
 rw [if_pos c6] at H; have c6b0 : (t110 != t108) = true := c6; (try (have c6b1 : decide (t110 = t108) = false := by simpa using c6)); (try (have c6b2 : (t110 == t108) = false := by simpa using c6)); (try (have c6b3 : ¬ (t110 = t108) := by simpa using c6)); clear c6; obtain rfl := Option.some.inj H; go_enter Tryd.func4, Tryd.ntmps4; go_wp2_with (first | (refine sqG 13 (some 12) Tryd.func13 #[.string a0] (h := ?_); (with_reducible refine (spec_PeriodOf.calls k a0 t107 t108 _ A3.out).mono ?_); rintro e w' ⟨rfl, ⟨nd, rfl⟩⟩; refine ⟨_, rfl, ?_⟩) | (refine sqG 14 (some 17) Tryd.func14 #[.string a0] (h := ?_); (with_reducible refine (impl_PeriodOf.calls k a0 t109 t110 _ A4.out).mono ?_); rintro e w7 ⟨rfl, hb⟩; refine ⟨_, rfl, ?_⟩; replace HB := mA (below_step z2 hb); (try clear hb))); go_ret; exact ⟨z3, z2⟩

/-- THE ONE PURE STATEMENT of laws_FnExactPeriodOf: yours. -/
def laws_FnExactPeriodOf.Pure : Prop := ∀ (a0 : ByteArray), a0.size ≤ 140737488351232 → ∃ k, laws_FnExactPeriodOf.f k a0 = some true
theorem laws_FnExactPeriodOf.walk (P : laws_FnExactPeriodOf.Pure) (a0 : ByteArray) (w : World) (w0 : a0.size ≤ 140737488351232) :
    Calls Tryd.prog 4 #[.string a0] w fun e w' => e = .returned (.bool true) ∧ Below w.heap.size w w' := by
 obtain ⟨k, h⟩ := P a0 w0; refine (laws_FnExactPeriodOf.calls k a0 true w h).mono ?_; rintro e w' ⟨rfl, hd⟩; exact ⟨rfl, hd⟩

end Go.Proofs.YtkmghekffehimaaDoor.PFnExactPeriodOf
