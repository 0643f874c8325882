/- Written by this session's program (wip/tool/xprint.py) over the kit's printer. -/
import Derived.Test.YtkmghekffehimaaDoorPFnExactSlopesOfx0
import Derived.Test.YtkmghekffehimaaDoorPFnExactSlopesOfx2
import Derived.Test.YtkmghekffehimaaDoorPFnExactSlopesOfx3
import Derived.Test.YtkmghekffehimaaDoorPFnExactSlopesOfx4
namespace Go.Proofs.YtkmghekffehimaaDoor.PFnExactSlopesOf
open Go.RowKit Go.Proofs.YtkmghekffehimaaDoorW.PrintWords Go.Proofs.YtkmghekffehimaaDoorW.PrintLast Go.Proofs.YtkmghekffehimaaDoorW.PrintMore
attribute [local go_sem] max2_int min2_int max_two min_two max_three min_three max_four min_four   -- for this text's walks alone
set_option linter.unusedVariables false
set_option linter.unusedSimpArgs false

/-! ### impl_divisor: function 62 -/
def impl_divisor.l0 : Nat → Int → Int → Option (Int)
  | 0, _, _ => none
  | k + 1, x0, x1 => if x1 = 0 then (some (mx x0 (wrap64 (-x0)))) else (impl_divisor.l0 k x1 (Int.tmod x0 x1))
def impl_divisor.f (k : Nat) (a0 : Int) (a1 : Int) : Option (Int) := impl_divisor.l0 k a0 a1
theorem impl_divisor.mono_l : ∀ k, (∀ y0 y1, LeO (impl_divisor.l0 k y0 y1) (impl_divisor.l0 (k + 1) y0 y1))
  | 0 => fun _ _ r h => by simp [impl_divisor.l0] at h
  | k + 1 => by
   have ih0 := impl_divisor.mono_l k
   intros
   unfold impl_divisor.l0
   all_goals repeat' first | (with_reducible first | apply ih0 | exact LeO.refl _ | exact LeO.none _ | refine LeO.ite ?_ ?_ | refine LeO.bind ?_ (fun _ => ?_)) | apply ih0 | exact LeO.none _ | refine LeO.ite ?_ ?_ | refine LeO.bind ?_ (fun _ => ?_)
theorem impl_divisor.mono : ∀ a0 a1 k, LeO (impl_divisor.f k a0 a1) (impl_divisor.f (k + 1) a0 a1) := by
  intro a0 a1 k
  have ih0 := impl_divisor.mono_l k
  unfold impl_divisor.f
  repeat' first | (with_reducible first | apply ih0 | exact LeO.refl _ | exact LeO.none _ | refine LeO.ite ?_ ?_ | refine LeO.bind ?_ (fun _ => ?_)) | apply ih0 | exact LeO.none _ | refine LeO.ite ?_ ?_ | refine LeO.bind ?_ (fun _ => ?_)
set_option maxHeartbeats 8000000 in
set_option maxRecDepth 100000 in
theorem impl_divisor.calls (k : Nat) (a0 : Int) (a1 : Int) (r : Int) (w : World) (h : impl_divisor.f k a0 a1 = some r) :
    Calls Tryd.prog 62 #[.int .i64 a0, .int .i64 a1] w fun e w' => e = .returned (.int .i64 r) ∧ Below w.heap.size w w' := by
 have HB := mA (Below.refl w.heap.size w); have H : (impl_divisor.l0 k a0 a1) = some r := h; clear h; have H' := mA H; clear H; go_enter Tryd.func62, Tryd.ntmps62; go_wp2
 repeat (go_quiet (fail); try go_wp2)
 go_loopg [0, 1] k (fun kq v0 v1 w' => ∃ (x0_1 : Int) (x1_1 : Int), v0 = .int .i64 x0_1 ∧ v1 = .int .i64 x1_1 ∧ Aside0 (impl_divisor.l0 kq x0_1 x1_1 = some r) ∧ Aside0 (kq ≤ k) ∧ Aside0 (Below w.heap.size w w'))
 case atStart => exact ⟨(a0), (a1), z2, z2, H', ⟨Nat.le_refl _⟩, ⟨z1⟩⟩
 case round =>
  clear H'; (try clear p2); obtain ⟨x0_1, x1_1, rfl, rfl, HA, HK1, HB⟩ := hrel
  cases gk with
  | zero => exact absurd HA.out (by simp [impl_divisor.l0])
  | succ k1 =>
   have H := HA.out; clear HA; simp only [impl_divisor.l0] at H; refine sqC (x1_1 = 0) (fun c3 => ?_) (fun c3 => ?_)
   ·rw [if_neg c3] at H; have c3b0 : (x1_1 == 0) = false := beq_eq_false_iff_ne.mpr c3; have c3b1 : (x1_1 != 0) = true := bne_iff_ne.mpr c3; have H' := mA H; clear H; go_wp2
    repeat (go_quiet (fail); try go_wp2)
    go_roundg k1
    case measure => have := HK1.out; omega
    case rel => exact ⟨(x1_1), (Int.tmod x0_1 x1_1), z2, z2, H', ⟨by have := HK1.out; omega⟩, ⟨z1⟩⟩
   rw [if_pos c3] at H; have c3b0 : (x1_1 == 0) = true := beq_iff_eq.mpr c3; have c3b1 : (x1_1 != 0) = false := bne_eq_false_iff_eq.mpr c3; clear c3; obtain ⟨ji4, hji4⟩ : ∃ j_ : Int, (mx x0_1 (wrap64 (-x0_1))) = j_ := ⟨_, rfl⟩
   replace H : (some ji4) = some r := by first | (rw [hji4] at H; exact H) | (simp only [hji4] at H ⊢; exact H)
   have hji4_ : (if x0_1 < (wrap64 (-x0_1)) then (wrap64 (-x0_1)) else x0_1) = ji4 := hji4; obtain rfl := Option.some.inj H; go_wp2
   repeat (go_quiet (fail); try go_wp2)
   go_ret; exact ⟨by first | rfl | (simp [errW_none, errW_some] <;> rfl) | (simp only [← hji4]; first | rfl | (simp [errW_none, errW_some] <;> rfl)) | (simp [*, errW_none, errW_some] <;> rfl), z1⟩

/-! ### impl_worth_lowest: function 43 -/
def impl_worth_lowest.f (k : Nat) (a0_0 : Int) (a0_1 : Int) : Option (Int × Int) := (impl_divisor.f k a0_0 a0_1).bind fun t153 => (if t153 = 0 then (none) else (some (wrap64 (Int.tdiv a0_0 t153), wrap64 (Int.tdiv a0_1 t153))))
theorem impl_worth_lowest.mono : ∀ a0 a1 k, LeO (impl_worth_lowest.f k a0 a1) (impl_worth_lowest.f (k + 1) a0 a1) := by
  intro a0 a1 k
  unfold impl_worth_lowest.f
  repeat' first | (with_reducible first | apply impl_divisor.mono | exact LeO.refl _ | exact LeO.none _ | refine LeO.ite ?_ ?_ | refine LeO.bind ?_ (fun _ => ?_)) | apply impl_divisor.mono | exact LeO.none _ | refine LeO.ite ?_ ?_ | refine LeO.bind ?_ (fun _ => ?_)
set_option maxHeartbeats 8000000 in
set_option maxRecDepth 100000 in
theorem impl_worth_lowest.calls (k : Nat) (a0_0 : Int) (a0_1 : Int) (r1 : Int) (r2 : Int) (w : World) (h : impl_worth_lowest.f k a0_0 a0_1 = some (r1, r2)) :
    Calls Tryd.prog 43 #[.agg #[.int .i64 a0_0, .int .i64 a0_1]] w fun e w' => e = .returned (.tuple #[.int .i64 r1, .int .i64 r2]) ∧ Below w.heap.size w w' := by
 have hu49 := Tryd.underlying49; have HB := mA (Below.refl w.heap.size w); have H : ((impl_divisor.f k a0_0 a0_1).bind fun t153 => (if t153 = 0 then (none) else (some (wrap64 (Int.tdiv a0_0 t153), wrap64 (Int.tdiv a0_1 t153))))) = some (r1, r2) := h; clear h; obtain ⟨t153, A2, H⟩ := sqB H; obtain ⟨c3, H⟩ := sqJ H; have c3b0 : (t153 == 0) = false := beq_eq_false_iff_ne.mpr c3; have c3b1 : (t153 != 0) = true := bne_iff_ne.mpr c3; simp only [Option.some.injEq, Prod.mk.injEq] at H; obtain ⟨rfl, rfl⟩ := H; go_enter Tryd.func43, Tryd.ntmps43; go_wp2_with (first | (refine sqX 1 #[.int .i64 a0_0, .int .i64 a0_1] 49 ?_; intro gb152 hg w4 hbox hb; have BK152 := mA (hbox); have GW152 := mA ((z9 : w.heap.size ≤ gb152)); have GE152 := mA ((z9 : w.heap.size ≤ gb152)); replace HB := mA (below_step z1 hb); clear hb hbox hg; have hcz5_0 := sqZ0 BK152; have hcz5_1 := sqZ1 BK152; have hfz5_0 := blk_frozen BK152.out 0; have hfz5_1 := blk_frozen BK152.out 1) | (go_at_call 62; (with_reducible refine (impl_divisor.calls k a0_0 a0_1 t153 _ A2.out).mono ?_); rintro e w6 ⟨rfl, hb⟩; replace BK152 := mA (blk_below (g := gb152) (o := .cells #[.int .i64 a0_0, .int .i64 a0_1] 49 (0, 0)) (z0 BK152) hb); replace HB := mA (below_step z3 hb); (try clear hb); have hcz7_0 := sqZ0 BK152; have hcz7_1 := sqZ1 BK152; have hfz7_0 := blk_frozen BK152.out 0; have hfz7_1 := blk_frozen BK152.out 1))
 repeat (go_quiet (first | (refine sqX 1 #[.int .i64 a0_0, .int .i64 a0_1] 49 ?_; intro gb152 hg w4 hbox hb; have BK152 := mA (hbox); have GW152 := mA ((z9 : w.heap.size ≤ gb152)); have GE152 := mA ((z9 : w.heap.size ≤ gb152)); replace HB := mA (below_step z1 hb); clear hb hbox hg; have hcz5_0 := sqZ0 BK152; have hcz5_1 := sqZ1 BK152; have hfz5_0 := blk_frozen BK152.out 0; have hfz5_1 := blk_frozen BK152.out 1) | (go_at_call 62; (with_reducible refine (impl_divisor.calls k a0_0 a0_1 t153 _ A2.out).mono ?_); rintro e w6 ⟨rfl, hb⟩; replace BK152 := mA (blk_below (g := gb152) (o := .cells #[.int .i64 a0_0, .int .i64 a0_1] 49 (0, 0)) (z0 BK152) hb); replace HB := mA (below_step z3 hb); (try clear hb); have hcz7_0 := sqZ0 BK152; have hcz7_1 := sqZ1 BK152; have hfz7_0 := blk_frozen BK152.out 0; have hfz7_1 := blk_frozen BK152.out 1)); try go_wp2_with (first | (refine sqX 1 #[.int .i64 a0_0, .int .i64 a0_1] 49 ?_; intro gb152 hg w4 hbox hb; have BK152 := mA (hbox); have GW152 := mA ((z9 : w.heap.size ≤ gb152)); have GE152 := mA ((z9 : w.heap.size ≤ gb152)); replace HB := mA (below_step z1 hb); clear hb hbox hg; have hcz5_0 := sqZ0 BK152; have hcz5_1 := sqZ1 BK152; have hfz5_0 := blk_frozen BK152.out 0; have hfz5_1 := blk_frozen BK152.out 1) | (go_at_call 62; (with_reducible refine (impl_divisor.calls k a0_0 a0_1 t153 _ A2.out).mono ?_); rintro e w6 ⟨rfl, hb⟩; replace BK152 := mA (blk_below (g := gb152) (o := .cells #[.int .i64 a0_0, .int .i64 a0_1] 49 (0, 0)) (z0 BK152) hb); replace HB := mA (below_step z3 hb); (try clear hb); have hcz7_0 := sqZ0 BK152; have hcz7_1 := sqZ1 BK152; have hfz7_0 := blk_frozen BK152.out 0; have hfz7_1 := blk_frozen BK152.out 1)))
 go_ret2; exact ⟨z8, z3⟩

/-! ### impl_SlopesOf: function 23 -/
def impl_SlopesOf.j0 : Nat → ByteArray → Bool → Option (Int × Int × Int × Int × Bool)
  | 0, _, _ => none
  | k + 1, x0, x19 => if x19 = true then (some (0, 0, 0, 0, false)) else ((impl_slopes.f k x0).bind fun bt155 => ((impl_worth_against.f k bt155.1 bt155.2.1 bt155.2.2.1 bt155.2.2.2).bind fun t161 => (if t161 ≥ 0 then (some (0, 0, 0, 0, false)) else ((impl_worth_lowest.f k bt155.1 bt155.2.1).bind fun bt162 => ((impl_worth_lowest.f k bt155.2.2.1 bt155.2.2.2).bind fun bt164 => (some (bt162.1, bt162.2, bt164.1, bt164.2, true)))))))
def impl_SlopesOf.f (k : Nat) (a0 : ByteArray) : Option (Int × Int × Int × Int × Bool) := (impl_IsWord.f a0).bind fun t154 => (if t154 = true then (impl_SlopesOf.j0 k a0 (a0.toList == ([] : List UInt8))) else (impl_SlopesOf.j0 k a0 true))
theorem impl_SlopesOf.mono_l : ∀ k, (∀ y0 y1, LeO (impl_SlopesOf.j0 k y0 y1) (impl_SlopesOf.j0 (k + 1) y0 y1))
  | 0 => fun _ _ r h => by simp [impl_SlopesOf.j0] at h
  | k + 1 => by
   have ih0 := impl_SlopesOf.mono_l k
   intros
   unfold impl_SlopesOf.j0
   all_goals repeat' first | (with_reducible first | apply ih0 | apply impl_slopes.mono | apply impl_worth_against.mono | apply impl_worth_lowest.mono | exact LeO.refl _ | exact LeO.none _ | refine LeO.ite ?_ ?_ | refine LeO.bind ?_ (fun _ => ?_)) | apply ih0 | apply impl_slopes.mono | apply impl_worth_against.mono | apply impl_worth_lowest.mono | exact LeO.none _ | refine LeO.ite ?_ ?_ | refine LeO.bind ?_ (fun _ => ?_)
theorem impl_SlopesOf.mono : ∀ a0 k, LeO (impl_SlopesOf.f k a0) (impl_SlopesOf.f (k + 1) a0) := by
  intro a0 k
  have ih0 := impl_SlopesOf.mono_l k
  unfold impl_SlopesOf.f
  repeat' first | (with_reducible first | apply ih0 | apply impl_slopes.mono | apply impl_worth_against.mono | apply impl_worth_lowest.mono | exact LeO.refl _ | exact LeO.none _ | refine LeO.ite ?_ ?_ | refine LeO.bind ?_ (fun _ => ?_)) | apply ih0 | apply impl_slopes.mono | apply impl_worth_against.mono | apply impl_worth_lowest.mono | exact LeO.none _ | refine LeO.ite ?_ ?_ | refine LeO.bind ?_ (fun _ => ?_)
set_option maxHeartbeats 8000000 in
set_option maxRecDepth 100000 in
theorem impl_SlopesOf.calls (k : Nat) (a0 : ByteArray) (r1 : Int) (r2 : Int) (r3 : Int) (r4 : Int) (r5 : Bool) (w : World) (h : impl_SlopesOf.f k a0 = some (r1, r2, r3, r4, r5)) :
    Calls Tryd.prog 23 #[.string a0] w fun e w' => e = .returned (.tuple #[.int .i64 r1, .int .i64 r2, .int .i64 r3, .int .i64 r4, .bool r5]) ∧ Below w.heap.size w w' := by
 have hu49 := Tryd.underlying49; have HB := mA (Below.refl w.heap.size w); have H : ((impl_IsWord.f a0).bind fun t154 => (if t154 = true then (impl_SlopesOf.j0 k a0 (a0.toList == ([] : List UInt8))) else (impl_SlopesOf.j0 k a0 true))) = some (r1, r2, r3, r4, r5) := h; clear h; have HC2 := mA H; clear H; go_enter Tryd.func23, Tryd.ntmps23
 go_upto_region 1 with (fail)
 go_cut [19] (fun v19 wc => ∃ (kq : Nat) (x19_1 : Bool), v19 = .bool x19_1 ∧ Aside0 (impl_SlopesOf.j0 kq a0 x19_1 = some (r1, r2, r3, r4, r5)) ∧ Aside0 (kq ≤ k) ∧ Aside0 (Below w.heap.size w wc))
 case first =>
  have H := HC2.out; clear HC2; obtain ⟨t154, A3, H⟩ := sqB H; by_cases c4 : t154 = true
  ·subst c4; rw [if_pos rfl] at H; have H' := mA H; clear H; go_wp2_with (first | (refine sqG 12 (some 14) Tryd.func12 #[.string a0] (h := ?_); (with_reducible refine (impl_IsWord.calls a0 true _ A3.out).mono ?_); rintro e w5 ⟨rfl, hb⟩; refine ⟨_, rfl, ?_⟩; replace HB := mA (below_step z1 hb); (try clear hb))); go_meet
   case rel => exact ⟨_, ((a0.toList == ([] : List UInt8))), z2, H', ⟨z13⟩, ⟨z1⟩⟩
  replace c4 := Bool.eq_false_iff.mpr c4; subst c4; rw [if_neg (show ¬ (false = true) by decide)] at H; have H' := mA H; clear H; go_wp2_with (first | (refine sqG 12 (some 14) Tryd.func12 #[.string a0] (h := ?_); (with_reducible refine (impl_IsWord.calls a0 false _ A3.out).mono ?_); rintro e w6 ⟨rfl, hb⟩; refine ⟨_, rfl, ?_⟩; replace HB := mA (below_step z1 hb); (try clear hb))); go_meet
  case rel => exact ⟨_, (true), z2, H', ⟨z13⟩, ⟨z1⟩⟩
 case rest =>
  clear HC2; (try clear c1); (try clear c2); (try clear p2); (try clear c4); obtain ⟨kq, x19_1, rfl, HA, HJ1, HB⟩ := hcut
  cases kq with
  | zero => exact absurd HA.out (by simp [impl_SlopesOf.j0])
  | succ kj1 =>
   have H := HA.out; clear HA; simp only [impl_SlopesOf.j0] at H; by_cases c7 : x19_1 = true
   ·subst c7; rw [if_pos rfl] at H; simp only [Option.some.injEq, Prod.mk.injEq] at H; obtain ⟨rfl, rfl, rfl, rfl, rfl⟩ := H; go_wp2; refine bodyPost_ret (results_list (rs := [.tmp 2, .tmp 3, .tmp 4, .tmp 5, .tmp 6]) rfl (by simp) (.tmp (.tmp (.tmp (.tmp (.tmp .nil)))))) rfl ?_; exact ⟨z8, z1⟩
   replace c7 := Bool.eq_false_iff.mpr c7; subst c7; rw [if_neg (show ¬ (false = true) by decide)] at H; obtain ⟨⟨t155, t156, t157, t158⟩, A8, H⟩ := sqB H; dsimp only at H; obtain ⟨t161, A9, H⟩ := sqB H; by_cases c10 : t161 ≥ 0
   ·rw [if_pos c10] at H; replace c10 := decide_eq_true c10; simp only [Option.some.injEq, Prod.mk.injEq] at H; obtain ⟨rfl, rfl, rfl, rfl, rfl⟩ := H
    go_wp2_with (first | (refine sqG 41 (some 22) Tryd.func41 #[.string a0] (h := ?_); (with_reducible refine (impl_slopes.calls kj1 a0 t155 t156 t157 t158 _ A8.out).mono ?_); rintro e w11 ⟨rfl, hb⟩; refine ⟨_, rfl, ?_⟩; replace HB := mA (below_step z1 hb); (try clear hb)) | (refine sqX 7 #[.int .i64 0, .int .i64 0] 49 ?_; intro gb159 hg w12 hbox hb; have BK159 := mA (hbox); have GW159 := mA ((z9 : w.heap.size ≤ gb159)); have GE159 := mA ((z9 : w.heap.size ≤ gb159)); replace HB := mA (below_step z1 hb); clear hb hbox hg) | (refine sqX 8 #[.int .i64 0, .int .i64 0] 49 ?_; intro gb160 hg w13 hbox hb; have BK160 := mA (hbox); have GW160 := mA ((z6 : w.heap.size ≤ gb160)); have GE160 := mA ((z6 : w.heap.size ≤ gb160)); replace HB := mA (below_step z3 hb); have NB159_160 := mA ((z42 BK159 : gb159 ≠ gb160)); have NB160_159 := mA ((z43 BK159 : gb160 ≠ gb159)); replace BK159 := mA (blk_below (g := gb159) (o := .cells #[.int .i64 0, .int .i64 0] 49 (0, 0)) (z0 BK159) hb); clear hb hbox hg; have hnb14 := NB159_160.out; have hnc14 := NB160_159.out; have hcz15_0 := sqZ0 BK159; have hcz15_1 := sqZ1 BK159; have hfz15_0 := blk_frozen BK159.out 0; have hfz15_1 := blk_frozen BK159.out 1; have hcz16_0 := sqZ0 BK160; have hcz16_1 := sqZ1 BK160; have hfz16_0 := blk_frozen BK160.out 0; have hfz16_1 := blk_frozen BK160.out 1) | (refine sqG 42 (some 27) Tryd.func42 #[.agg #[.int .i64 t155, .int .i64 t156], .agg #[.int .i64 t157, .int .i64 t158]] (h := ?_); (with_reducible refine (impl_worth_against.calls kj1 t155 t156 t157 t158 t161 _ A9.out).mono ?_); rintro e w17 ⟨rfl, hb⟩; refine ⟨_, rfl, ?_⟩; replace BK159 := mA (blk_below (g := gb159) (o := .cells #[.int .i64 t155, .int .i64 t156] 49 (0, 0)) (z44 NB159_160 BK159) hb); replace BK160 := mA (blk_below (g := gb160) (o := .cells #[.int .i64 t157, .int .i64 t158] 49 (0, 0)) (z45 NB160_159 BK160) hb); replace HB := mA (below_step z3 hb); (try clear hb)))
    refine bodyPost_ret (results_list (rs := [.tmp 2, .tmp 3, .tmp 4, .tmp 5, .tmp 6]) rfl (by simp) (.tmp (.tmp (.tmp (.tmp (.tmp .nil)))))) rfl ?_; exact ⟨z8, z3⟩
   rw [if_neg c10] at H; replace c10 := decide_eq_false c10; obtain ⟨⟨t162, t163⟩, A18, H⟩ := sqB H; dsimp only at H; obtain ⟨⟨t164, t165⟩, A19, H⟩ := sqB H; dsimp only at H; simp only [Option.some.injEq, Prod.mk.injEq] at H; obtain ⟨rfl, rfl, rfl, rfl, rfl⟩ := H
   go_wp2_with (first | (refine sqG 41 (some 22) Tryd.func41 #[.string a0] (h := ?_); (with_reducible refine (impl_slopes.calls kj1 a0 t155 t156 t157 t158 _ A8.out).mono ?_); rintro e w20 ⟨rfl, hb⟩; refine ⟨_, rfl, ?_⟩; replace HB := mA (below_step z1 hb); (try clear hb)) | (refine sqX 7 #[.int .i64 0, .int .i64 0] 49 ?_; intro gb159 hg w21 hbox hb; have BK159 := mA (hbox); have GW159 := mA ((z9 : w.heap.size ≤ gb159)); have GE159 := mA ((z9 : w.heap.size ≤ gb159)); replace HB := mA (below_step z1 hb); clear hb hbox hg) | (refine sqX 8 #[.int .i64 0, .int .i64 0] 49 ?_; intro gb160 hg w22 hbox hb; have BK160 := mA (hbox); have GW160 := mA ((z6 : w.heap.size ≤ gb160)); have GE160 := mA ((z6 : w.heap.size ≤ gb160)); replace HB := mA (below_step z3 hb); have NB159_160 := mA ((z42 BK159 : gb159 ≠ gb160)); have NB160_159 := mA ((z43 BK159 : gb160 ≠ gb159)); replace BK159 := mA (blk_below (g := gb159) (o := .cells #[.int .i64 0, .int .i64 0] 49 (0, 0)) (z0 BK159) hb); clear hb hbox hg; have hnb23 := NB159_160.out; have hnc23 := NB160_159.out; have hcz24_0 := sqZ0 BK159; have hcz24_1 := sqZ1 BK159; have hfz24_0 := blk_frozen BK159.out 0; have hfz24_1 := blk_frozen BK159.out 1; have hcz25_0 := sqZ0 BK160; have hcz25_1 := sqZ1 BK160; have hfz25_0 := blk_frozen BK160.out 0; have hfz25_1 := blk_frozen BK160.out 1) | (refine sqG 42 (some 27) Tryd.func42 #[.agg #[.int .i64 t155, .int .i64 t156], .agg #[.int .i64 t157, .int .i64 t158]] (h := ?_); (with_reducible refine (impl_worth_against.calls kj1 t155 t156 t157 t158 t161 _ A9.out).mono ?_); rintro e w26 ⟨rfl, hb⟩; refine ⟨_, rfl, ?_⟩; replace BK159 := mA (blk_below (g := gb159) (o := .cells #[.int .i64 t155, .int .i64 t156] 49 (0, 0)) (z44 NB159_160 BK159) hb); replace BK160 := mA (blk_below (g := gb160) (o := .cells #[.int .i64 t157, .int .i64 t158] 49 (0, 0)) (z45 NB160_159 BK160) hb); replace HB := mA (below_step z3 hb); (try clear hb); have hcz27_0 := sqZ0 BK159; have hcz27_1 := sqZ1 BK159; have hfz27_0 := blk_frozen BK159.out 0; have hfz27_1 := blk_frozen BK159.out 1) | (refine sqG 43 (some 31) Tryd.func43 #[.agg #[.int .i64 t155, .int .i64 t156]] (h := ?_); (with_reducible refine (impl_worth_lowest.calls kj1 t155 t156 t162 t163 _ A18.out).mono ?_); rintro e w28 ⟨rfl, hb⟩; refine ⟨_, rfl, ?_⟩; replace BK159 := mA (blk_below (g := gb159) (o := .cells #[.int .i64 t155, .int .i64 t156] 49 (0, 0)) (z0 BK159) hb); replace BK160 := mA (blk_below (g := gb160) (o := .cells #[.int .i64 t157, .int .i64 t158] 49 (0, 0)) (z0 BK160) hb); replace HB := mA (below_step z3 hb); (try clear hb); have hcz29_0 := sqZ0 BK160; have hcz29_1 := sqZ1 BK160; have hfz29_0 := blk_frozen BK160.out 0; have hfz29_1 := blk_frozen BK160.out 1) | (refine sqG 43 (some 36) Tryd.func43 #[.agg #[.int .i64 t157, .int .i64 t158]] (h := ?_); (with_reducible refine (impl_worth_lowest.calls kj1 t157 t158 t164 t165 _ A19.out).mono ?_); rintro e w30 ⟨rfl, hb⟩; refine ⟨_, rfl, ?_⟩; replace BK159 := mA (blk_below (g := gb159) (o := .cells #[.int .i64 t155, .int .i64 t156] 49 (0, 0)) (z0 BK159) hb); replace BK160 := mA (blk_below (g := gb160) (o := .cells #[.int .i64 t157, .int .i64 t158] 49 (0, 0)) (z0 BK160) hb); replace HB := mA (below_step z3 hb); (try clear hb)))
   refine bodyPost_ret (results_list (rs := [.tmp 2, .tmp 3, .tmp 4, .tmp 5, .tmp 6]) rfl (by simp) (.tmp (.tmp (.tmp (.tmp (.tmp .nil)))))) rfl ?_; exact ⟨z8, z3⟩

/-! ### laws_FnExactSlopesOf: function 7 -/
def laws_FnExactSlopesOf.f (k : Nat) (a0 : ByteArray) : Option (Bool) := if (a0.size : Int) > 1048576 then (some true) else ((spec_SlopesOf.f k a0).bind fun bt166 => ((impl_SlopesOf.f k a0).bind fun bt171 => (if bt171.1 = bt166.1 then (if bt171.2.1 = bt166.2.1 then (if bt171.2.2.1 = bt166.2.2.1 then (if bt171.2.2.2.1 = bt166.2.2.2.1 then (if (bt171.2.2.2.2 != bt166.2.2.2.2) = true then (some false) else (some true)) else (some false)) else (some false)) else (some false)) else (some false))))
theorem laws_FnExactSlopesOf.mono : ∀ a0 k, LeO (laws_FnExactSlopesOf.f k a0) (laws_FnExactSlopesOf.f (k + 1) a0) := by
  intro a0 k
  unfold laws_FnExactSlopesOf.f
  repeat' first | (with_reducible first | apply impl_SlopesOf.mono | apply spec_SlopesOf.mono | exact LeO.refl _ | exact LeO.none _ | refine LeO.ite ?_ ?_ | refine LeO.bind ?_ (fun _ => ?_)) | apply impl_SlopesOf.mono | apply spec_SlopesOf.mono | exact LeO.none _ | refine LeO.ite ?_ ?_ | refine LeO.bind ?_ (fun _ => ?_)
set_option maxHeartbeats 8000000 in
set_option maxRecDepth 100000 in
theorem laws_FnExactSlopesOf.calls (k : Nat) (a0 : ByteArray) (r : Bool) (w : World) (h : laws_FnExactSlopesOf.f k a0 = some r) :
    Calls Tryd.prog 7 #[.string a0] w fun e w' => e = .returned (.bool r) ∧ Below w.heap.size w w' := by
 have HB := mA (Below.refl w.heap.size w); have H : (if (a0.size : Int) > 1048576 then (some true) else ((spec_SlopesOf.f k a0).bind fun bt166 => ((impl_SlopesOf.f k a0).bind fun bt171 => (if bt171.1 = bt166.1 then (if bt171.2.1 = bt166.2.1 then (if bt171.2.2.1 = bt166.2.2.1 then (if bt171.2.2.2.1 = bt166.2.2.2.1 then (if (bt171.2.2.2.2 != bt166.2.2.2.2) = true then (some false) else (some true)) else (some false)) else (some false)) else (some false)) else (some false))))) = some r := h; clear h; by_cases c2 : (a0.size : Int) > 1048576
 ·rw [if_pos c2] at H; have c2b0 := decide_eq_true c2; have c2b1 : decide (1048576 < a0.size) = true := decide_eq_true (by omega); clear c2; obtain rfl := Option.some.inj H; go_enter Tryd.func7, Tryd.ntmps7; go_wp2; go_ret; exact ⟨z8, z1⟩
 rw [if_neg c2] at H; have c2b0 := decide_eq_false c2; have c2b1 : decide (1048576 < a0.size) = false := decide_eq_false (by omega); clear c2; obtain ⟨⟨t166, t167, t168, t169, t170⟩, A3, H⟩ := sqB H; dsimp only at H; obtain ⟨⟨t171, t172, t173, t174, t175⟩, A4, H⟩ := sqB H; dsimp only at H; refine sqC (t171 = t166) (fun c5 => ?_) (fun c5 => ?_)
 ·rw [if_neg c5] at H; have c5b0 : (t171 == t166) = false := beq_eq_false_iff_ne.mpr c5; have c5b1 : (t171 != t166) = true := bne_iff_ne.mpr c5; obtain rfl := Option.some.inj H; go_enter Tryd.func7, Tryd.ntmps7; go_wp2_with (first | (refine sqG 22 (some 18) Tryd.func22 #[.string a0] (h := ?_); (with_reducible refine (spec_SlopesOf.calls k a0 t166 t167 t168 t169 t170 _ A3.out).mono ?_); rintro e w20 ⟨rfl, hb⟩; refine ⟨_, rfl, ?_⟩; replace HB := mA (below_step z1 hb); (try clear hb)) | (refine sqG 23 (some 26) Tryd.func23 #[.string a0] (h := ?_); (with_reducible refine (impl_SlopesOf.calls k a0 t171 t172 t173 t174 t175 _ A4.out).mono ?_); rintro e w21 ⟨rfl, hb⟩; refine ⟨_, rfl, ?_⟩; replace HB := mA (below_step z1 hb); (try clear hb))); go_ret; exact ⟨z8, z1⟩
 rw [if_pos c5] at H; have c5b0 : (t171 == t166) = true := beq_iff_eq.mpr c5; have c5b1 : (t171 != t166) = false := bne_eq_false_iff_eq.mpr c5; clear c5; refine sqC (t172 = t167) (fun c6 => ?_) (fun c6 => ?_)
 ·rw [if_neg c6] at H; have c6b0 : (t172 == t167) = false := beq_eq_false_iff_ne.mpr c6; have c6b1 : (t172 != t167) = true := bne_iff_ne.mpr c6; obtain rfl := Option.some.inj H; go_enter Tryd.func7, Tryd.ntmps7; go_wp2_with (first | (refine sqG 22 (some 18) Tryd.func22 #[.string a0] (h := ?_); (with_reducible refine (spec_SlopesOf.calls k a0 t166 t167 t168 t169 t170 _ A3.out).mono ?_); rintro e w18 ⟨rfl, hb⟩; refine ⟨_, rfl, ?_⟩; replace HB := mA (below_step z1 hb); (try clear hb)) | (refine sqG 23 (some 26) Tryd.func23 #[.string a0] (h := ?_); (with_reducible refine (impl_SlopesOf.calls k a0 t171 t172 t173 t174 t175 _ A4.out).mono ?_); rintro e w19 ⟨rfl, hb⟩; refine ⟨_, rfl, ?_⟩; replace HB := mA (below_step z1 hb); (try clear hb))); go_ret; exact ⟨z8, z1⟩
 rw [if_pos c6] at H; have c6b0 : (t172 == t167) = true := beq_iff_eq.mpr c6; have c6b1 : (t172 != t167) = false := bne_eq_false_iff_eq.mpr c6; clear c6; refine sqC (t173 = t168) (fun c7 => ?_) (fun c7 => ?_)
 ·rw [if_neg c7] at H; have c7b0 : (t173 == t168) = false := beq_eq_false_iff_ne.mpr c7; have c7b1 : (t173 != t168) = true := bne_iff_ne.mpr c7; obtain rfl := Option.some.inj H; go_enter Tryd.func7, Tryd.ntmps7; go_wp2_with (first | (refine sqG 22 (some 18) Tryd.func22 #[.string a0] (h := ?_); (with_reducible refine (spec_SlopesOf.calls k a0 t166 t167 t168 t169 t170 _ A3.out).mono ?_); rintro e w16 ⟨rfl, hb⟩; refine ⟨_, rfl, ?_⟩; replace HB := mA (below_step z1 hb); (try clear hb)) | (refine sqG 23 (some 26) Tryd.func23 #[.string a0] (h := ?_); (with_reducible refine (impl_SlopesOf.calls k a0 t171 t172 t173 t174 t175 _ A4.out).mono ?_); rintro e w17 ⟨rfl, hb⟩; refine ⟨_, rfl, ?_⟩; replace HB := mA (below_step z1 hb); (try clear hb))); go_ret; exact ⟨z8, z1⟩
 rw [if_pos c7] at H; have c7b0 : (t173 == t168) = true := beq_iff_eq.mpr c7; have c7b1 : (t173 != t168) = false := bne_eq_false_iff_eq.mpr c7; clear c7; refine sqC (t174 = t169) (fun c8 => ?_) (fun c8 => ?_)
 ·rw [if_neg c8] at H; have c8b0 : (t174 == t169) = false := beq_eq_false_iff_ne.mpr c8; have c8b1 : (t174 != t169) = true := bne_iff_ne.mpr c8; obtain rfl := Option.some.inj H; go_enter Tryd.func7, Tryd.ntmps7; go_wp2_with (first | (refine sqG 22 (some 18) Tryd.func22 #[.string a0] (h := ?_); (with_reducible refine (spec_SlopesOf.calls k a0 t166 t167 t168 t169 t170 _ A3.out).mono ?_); rintro e w14 ⟨rfl, hb⟩; refine ⟨_, rfl, ?_⟩; replace HB := mA (below_step z1 hb); (try clear hb)) | (refine sqG 23 (some 26) Tryd.func23 #[.string a0] (h := ?_); (with_reducible refine (impl_SlopesOf.calls k a0 t171 t172 t173 t174 t175 _ A4.out).mono ?_); rintro e w15 ⟨rfl, hb⟩; refine ⟨_, rfl, ?_⟩; replace HB := mA (below_step z1 hb); (try clear hb))); go_ret; exact ⟨z8, z1⟩
 rw [if_pos c8] at H; have c8b0 : (t174 == t169) = true := beq_iff_eq.mpr c8; have c8b1 : (t174 != t169) = false := bne_eq_false_iff_eq.mpr c8; clear c8; refine sqC ((t175 != t170) = true) (fun c9 => ?_) (fun c9 => ?_)
 ·rw [if_neg c9] at H
  have c9b0 : (t175 != t170) = false := by simpa using c9
  (try (have c9b1 : decide (t175 = t170) = true := by simpa using c9)); (try (have c9b2 : (t175 == t170) = true := by simpa using c9)); clear c9; obtain rfl := Option.some.inj H; go_enter Tryd.func7, Tryd.ntmps7; go_wp2_with (first | (refine sqG 22 (some 18) Tryd.func22 #[.string a0] (h := ?_); (with_reducible refine (spec_SlopesOf.calls k a0 t166 t167 t168 t169 t170 _ A3.out).mono ?_); rintro e w12 ⟨rfl, hb⟩; refine ⟨_, rfl, ?_⟩; replace HB := mA (below_step z1 hb); (try clear hb)) | (refine sqG 23 (some 26) Tryd.func23 #[.string a0] (h := ?_); (with_reducible refine (impl_SlopesOf.calls k a0 t171 t172 t173 t174 t175 _ A4.out).mono ?_); rintro e w13 ⟨rfl, hb⟩; refine ⟨_, rfl, ?_⟩; replace HB := mA (below_step z1 hb); (try clear hb))); go_ret; exact ⟨z8, z1⟩
 rw [if_pos c9] at H; have c9b0 : (t175 != t170) = true := c9; (try (have c9b1 : decide (t175 = t170) = false := by simpa using c9)); (try (have c9b2 : (t175 == t170) = false := by simpa using c9)); (try (have c9b3 : ¬ (t175 = t170) := by simpa using c9)); clear c9; obtain rfl := Option.some.inj H; go_enter Tryd.func7, Tryd.ntmps7; go_wp2_with (first | (refine sqG 22 (some 18) Tryd.func22 #[.string a0] (h := ?_); (with_reducible refine (spec_SlopesOf.calls k a0 t166 t167 t168 t169 t170 _ A3.out).mono ?_); rintro e w10 ⟨rfl, hb⟩; refine ⟨_, rfl, ?_⟩; replace HB := mA (below_step z1 hb); (try clear hb)) | (refine sqG 23 (some 26) Tryd.func23 #[.string a0] (h := ?_); (with_reducible refine (impl_SlopesOf.calls k a0 t171 t172 t173 t174 t175 _ A4.out).mono ?_); rintro e w11 ⟨rfl, hb⟩; refine ⟨_, rfl, ?_⟩; replace HB := mA (below_step z1 hb); (try clear hb))); go_ret; exact ⟨z8, z1⟩

/-- THE ONE PURE STATEMENT of laws_FnExactSlopesOf: yours. -/
def laws_FnExactSlopesOf.Pure : Prop := ∀ (a0 : ByteArray), a0.size ≤ 140737488351232 → ∃ k, laws_FnExactSlopesOf.f k a0 = some true
theorem laws_FnExactSlopesOf.walk (P : laws_FnExactSlopesOf.Pure) (a0 : ByteArray) (w : World) (w0 : a0.size ≤ 140737488351232) :
    Calls Tryd.prog 7 #[.string a0] w fun e w' => e = .returned (.bool true) ∧ Below w.heap.size w w' := by
 obtain ⟨k, h⟩ := P a0 w0; refine (laws_FnExactSlopesOf.calls k a0 true w h).mono ?_; rintro e w' ⟨rfl, hd⟩; exact ⟨rfl, hd⟩

end Go.Proofs.YtkmghekffehimaaDoor.PFnExactSlopesOf
