/- Written by this session's program (wip/tool/xprint.py) over the kit's printer. -/
import Derived.Test.YtkmghekffehimaaDoorPFnLinesx0
import Derived.Test.YtkmghekffehimaaDoorPFnLinesx1
import Derived.Test.YtkmghekffehimaaDoorPFnLinesx2
import Derived.Test.YtkmghekffehimaaDoorPFnLinesx3
namespace Go.Proofs.YtkmghekffehimaaDoor.PFnLines
open Go.RowKit Go.Proofs.YtkmghekffehimaaDoorW.PrintWords Go.Proofs.YtkmghekffehimaaDoorW.PrintLast Go.Proofs.YtkmghekffehimaaDoorW.PrintMore
attribute [local go_sem] max2_int min2_int max_two min_two max_three min_three max_four min_four   -- for this text's walks alone
set_option linter.unusedVariables false
set_option linter.unusedSimpArgs false

/-! ### impl_divisor: function 62 -/
def impl_divisor.l0 : Nat → Int → Int → Option (Int)
  | 0, _, _ => none
  | k + 1, x0, x1 => if x1 = 0 then (some (mx x0 (wrap64 (-x0)))) else (impl_divisor.l0 k x1 (Int.tmod x0 x1))
def impl_divisor.f (k : Nat) (a0 : Int) (a1 : Int) : Option (Int) := impl_divisor.l0 k a0 a1
theorem impl_divisor.mono_l : ∀ k, (∀ y0 y1, LeO (impl_divisor.l0 k y0 y1) (impl_divisor.l0 (k + 1) y0 y1))
  | 0 => fun _ _ r h => by simp [impl_divisor.l0] at h
  | k + 1 => by
   have ih0 := impl_divisor.mono_l k
   intros
   unfold impl_divisor.l0
   all_goals repeat' first | (with_reducible first | apply ih0 | exact LeO.refl _ | exact LeO.none _ | refine LeO.ite ?_ ?_ | refine LeO.bind ?_ (fun _ => ?_)) | apply ih0 | exact LeO.none _ | refine LeO.ite ?_ ?_ | refine LeO.bind ?_ (fun _ => ?_)
theorem impl_divisor.mono : ∀ a0 a1 k, LeO (impl_divisor.f k a0 a1) (impl_divisor.f (k + 1) a0 a1) := by
  intro a0 a1 k
  have ih0 := impl_divisor.mono_l k
  unfold impl_divisor.f
  repeat' first | (with_reducible first | apply ih0 | exact LeO.refl _ | exact LeO.none _ | refine LeO.ite ?_ ?_ | refine LeO.bind ?_ (fun _ => ?_)) | apply ih0 | exact LeO.none _ | refine LeO.ite ?_ ?_ | refine LeO.bind ?_ (fun _ => ?_)
set_option maxHeartbeats 8000000 in
set_option maxRecDepth 100000 in
theorem impl_divisor.calls (k : Nat) (a0 : Int) (a1 : Int) (r : Int) (w : World) (h : impl_divisor.f k a0 a1 = some r) :
    Calls Tryd.prog 62 #[.int .i64 a0, .int .i64 a1] w fun e w' => e = .returned (.int .i64 r) ∧ Below w.heap.size w w' := by
 have HB := mA (Below.refl w.heap.size w); have H : (impl_divisor.l0 k a0 a1) = some r := h; clear h; have H' := mA H; clear H; go_enter Tryd.func62, Tryd.ntmps62; go_wp2
 repeat (go_quiet (fail); try go_wp2)
 go_loopg [0, 1] k (fun kq v0 v1 w' => ∃ (x0_1 : Int) (x1_1 : Int), v0 = .int .i64 x0_1 ∧ v1 = .int .i64 x1_1 ∧ Aside0 (impl_divisor.l0 kq x0_1 x1_1 = some r) ∧ Aside0 (kq ≤ k) ∧ Aside0 (Below w.heap.size w w'))
 case atStart => exact ⟨(a0), (a1), z4, z4, H', ⟨Nat.le_refl _⟩, ⟨z0⟩⟩
 case round =>
  clear H'; (try clear p2); obtain ⟨x0_1, x1_1, rfl, rfl, HA, HK1, HB⟩ := hrel
  cases gk with
  | zero => exact absurd HA.out (by simp [impl_divisor.l0])
  | succ k1 =>
   have H := HA.out; clear HA; simp only [impl_divisor.l0] at H; refine sqC (x1_1 = 0) (fun c3 => ?_) (fun c3 => ?_)
   ·rw [if_neg c3] at H; have c3b0 : (x1_1 == 0) = false := beq_eq_false_iff_ne.mpr c3; have c3b1 : (x1_1 != 0) = true := bne_iff_ne.mpr c3; have H' := mA H; clear H; go_wp2
    repeat (go_quiet (fail); try go_wp2)
    go_roundg k1
    case measure => have := HK1.out; omega
    case rel => exact ⟨(x1_1), (Int.tmod x0_1 x1_1), z4, z4, H', ⟨by have := HK1.out; omega⟩, ⟨z0⟩⟩
   rw [if_pos c3] at H; have c3b0 : (x1_1 == 0) = true := beq_iff_eq.mpr c3; have c3b1 : (x1_1 != 0) = false := bne_eq_false_iff_eq.mpr c3; clear c3; obtain ⟨ji4, hji4⟩ : ∃ j_ : Int, (mx x0_1 (wrap64 (-x0_1))) = j_ := ⟨_, rfl⟩
   replace H : (some ji4) = some r := by first | (rw [hji4] at H; exact H) | (simp only [hji4] at H ⊢; exact H)
   have hji4_ : (if x0_1 < (wrap64 (-x0_1)) then (wrap64 (-x0_1)) else x0_1) = ji4 := hji4; obtain rfl := Option.some.inj H; go_wp2
   repeat (go_quiet (fail); try go_wp2)
   go_ret; exact ⟨by first | rfl | (simp [errW_none, errW_some] <;> rfl) | (simp only [← hji4]; first | rfl | (simp [errW_none, errW_some] <;> rfl)) | (simp [*, errW_none, errW_some] <;> rfl), z0⟩

/-! ### impl_worth_lowest: function 43 -/
def impl_worth_lowest.f (k : Nat) (a0_0 : Int) (a0_1 : Int) : Option (Int × Int) := (impl_divisor.f k a0_0 a0_1).bind fun t143 => (if t143 = 0 then (none) else (some (wrap64 (Int.tdiv a0_0 t143), wrap64 (Int.tdiv a0_1 t143))))
theorem impl_worth_lowest.mono : ∀ a0 a1 k, LeO (impl_worth_lowest.f k a0 a1) (impl_worth_lowest.f (k + 1) a0 a1) := by
  intro a0 a1 k
  unfold impl_worth_lowest.f
  repeat' first | (with_reducible first | apply impl_divisor.mono | exact LeO.refl _ | exact LeO.none _ | refine LeO.ite ?_ ?_ | refine LeO.bind ?_ (fun _ => ?_)) | apply impl_divisor.mono | exact LeO.none _ | refine LeO.ite ?_ ?_ | refine LeO.bind ?_ (fun _ => ?_)
set_option maxHeartbeats 8000000 in
set_option maxRecDepth 100000 in
theorem impl_worth_lowest.calls (k : Nat) (a0_0 : Int) (a0_1 : Int) (r1 : Int) (r2 : Int) (w : World) (h : impl_worth_lowest.f k a0_0 a0_1 = some (r1, r2)) :
    Calls Tryd.prog 43 #[.agg #[.int .i64 a0_0, .int .i64 a0_1]] w fun e w' => e = .returned (.tuple #[.int .i64 r1, .int .i64 r2]) ∧ Below w.heap.size w w' := by
 have hu49 := Tryd.underlying49; have HB := mA (Below.refl w.heap.size w); have H : ((impl_divisor.f k a0_0 a0_1).bind fun t143 => (if t143 = 0 then (none) else (some (wrap64 (Int.tdiv a0_0 t143), wrap64 (Int.tdiv a0_1 t143))))) = some (r1, r2) := h; clear h; obtain ⟨t143, A2, H⟩ := sqB H; obtain ⟨c3, H⟩ := sqJ H; have c3b0 : (t143 == 0) = false := beq_eq_false_iff_ne.mpr c3; have c3b1 : (t143 != 0) = true := bne_iff_ne.mpr c3; simp only [Option.some.injEq, Prod.mk.injEq] at H; obtain ⟨rfl, rfl⟩ := H; go_enter Tryd.func43, Tryd.ntmps43; go_wp2_with (first | (refine sqX 1 #[.int .i64 a0_0, .int .i64 a0_1] 49 ?_; intro gb142 hg w4 hbox hb; have BK142 := mA (hbox); have GW142 := mA ((z9 : w.heap.size ≤ gb142)); have GE142 := mA ((z9 : w.heap.size ≤ gb142)); replace HB := mA (below_step z0 hb); clear hb hbox hg; have hcz5_0 := sqZ0 BK142; have hcz5_1 := sqZ1 BK142; have hfz5_0 := blk_frozen BK142.out 0; have hfz5_1 := blk_frozen BK142.out 1) | (go_at_call 62; (with_reducible refine (impl_divisor.calls k a0_0 a0_1 t143 _ A2.out).mono ?_); rintro e w6 ⟨rfl, hb⟩; replace BK142 := mA (blk_below (g := gb142) (o := .cells #[.int .i64 a0_0, .int .i64 a0_1] 49 (0, 0)) (z1 BK142) hb); replace HB := mA (below_step z2 hb); (try clear hb); have hcz7_0 := sqZ0 BK142; have hcz7_1 := sqZ1 BK142; have hfz7_0 := blk_frozen BK142.out 0; have hfz7_1 := blk_frozen BK142.out 1))
 repeat (go_quiet (first | (refine sqX 1 #[.int .i64 a0_0, .int .i64 a0_1] 49 ?_; intro gb142 hg w4 hbox hb; have BK142 := mA (hbox); have GW142 := mA ((z9 : w.heap.size ≤ gb142)); have GE142 := mA ((z9 : w.heap.size ≤ gb142)); replace HB := mA (below_step z0 hb); clear hb hbox hg; have hcz5_0 := sqZ0 BK142; have hcz5_1 := sqZ1 BK142; have hfz5_0 := blk_frozen BK142.out 0; have hfz5_1 := blk_frozen BK142.out 1) | (go_at_call 62; (with_reducible refine (impl_divisor.calls k a0_0 a0_1 t143 _ A2.out).mono ?_); rintro e w6 ⟨rfl, hb⟩; replace BK142 := mA (blk_below (g := gb142) (o := .cells #[.int .i64 a0_0, .int .i64 a0_1] 49 (0, 0)) (z1 BK142) hb); replace HB := mA (below_step z2 hb); (try clear hb); have hcz7_0 := sqZ0 BK142; have hcz7_1 := sqZ1 BK142; have hfz7_0 := blk_frozen BK142.out 0; have hfz7_1 := blk_frozen BK142.out 1)); try go_wp2_with (first | (refine sqX 1 #[.int .i64 a0_0, .int .i64 a0_1] 49 ?_; intro gb142 hg w4 hbox hb; have BK142 := mA (hbox); have GW142 := mA ((z9 : w.heap.size ≤ gb142)); have GE142 := mA ((z9 : w.heap.size ≤ gb142)); replace HB := mA (below_step z0 hb); clear hb hbox hg; have hcz5_0 := sqZ0 BK142; have hcz5_1 := sqZ1 BK142; have hfz5_0 := blk_frozen BK142.out 0; have hfz5_1 := blk_frozen BK142.out 1) | (go_at_call 62; (with_reducible refine (impl_divisor.calls k a0_0 a0_1 t143 _ A2.out).mono ?_); rintro e w6 ⟨rfl, hb⟩; replace BK142 := mA (blk_below (g := gb142) (o := .cells #[.int .i64 a0_0, .int .i64 a0_1] 49 (0, 0)) (z1 BK142) hb); replace HB := mA (below_step z2 hb); (try clear hb); have hcz7_0 := sqZ0 BK142; have hcz7_1 := sqZ1 BK142; have hfz7_0 := blk_frozen BK142.out 0; have hfz7_1 := blk_frozen BK142.out 1)))
 go_ret2; exact ⟨z6, z2⟩

/-! ### impl_SlopesOf: function 23 -/
def impl_SlopesOf.j0 : Nat → ByteArray → Bool → Option (Int × Int × Int × Int × Bool)
  | 0, _, _ => none
  | k + 1, x0, x19 => if x19 = true then (some (0, 0, 0, 0, false)) else ((impl_slopes.f k x0).bind fun bt145 => ((impl_worth_against.f k bt145.1 bt145.2.1 bt145.2.2.1 bt145.2.2.2).bind fun t151 => (if t151 ≥ 0 then (some (0, 0, 0, 0, false)) else ((impl_worth_lowest.f k bt145.1 bt145.2.1).bind fun bt152 => ((impl_worth_lowest.f k bt145.2.2.1 bt145.2.2.2).bind fun bt154 => (some (bt152.1, bt152.2, bt154.1, bt154.2, true)))))))
def impl_SlopesOf.f (k : Nat) (a0 : ByteArray) : Option (Int × Int × Int × Int × Bool) := (impl_IsWord.f a0).bind fun t144 => (if t144 = true then (impl_SlopesOf.j0 k a0 (a0.toList == ([] : List UInt8))) else (impl_SlopesOf.j0 k a0 true))
theorem impl_SlopesOf.mono_l : ∀ k, (∀ y0 y1, LeO (impl_SlopesOf.j0 k y0 y1) (impl_SlopesOf.j0 (k + 1) y0 y1))
  | 0 => fun _ _ r h => by simp [impl_SlopesOf.j0] at h
  | k + 1 => by
   have ih0 := impl_SlopesOf.mono_l k
   intros
   unfold impl_SlopesOf.j0
   all_goals repeat' first | (with_reducible first | apply ih0 | apply impl_slopes.mono | apply impl_worth_against.mono | apply impl_worth_lowest.mono | exact LeO.refl _ | exact LeO.none _ | refine LeO.ite ?_ ?_ | refine LeO.bind ?_ (fun _ => ?_)) | apply ih0 | apply impl_slopes.mono | apply impl_worth_against.mono | apply impl_worth_lowest.mono | exact LeO.none _ | refine LeO.ite ?_ ?_ | refine LeO.bind ?_ (fun _ => ?_)
theorem impl_SlopesOf.mono : ∀ a0 k, LeO (impl_SlopesOf.f k a0) (impl_SlopesOf.f (k + 1) a0) := by
  intro a0 k
  have ih0 := impl_SlopesOf.mono_l k
  unfold impl_SlopesOf.f
  repeat' first | (with_reducible first | apply ih0 | apply impl_slopes.mono | apply impl_worth_against.mono | apply impl_worth_lowest.mono | exact LeO.refl _ | exact LeO.none _ | refine LeO.ite ?_ ?_ | refine LeO.bind ?_ (fun _ => ?_)) | apply ih0 | apply impl_slopes.mono | apply impl_worth_against.mono | apply impl_worth_lowest.mono | exact LeO.none _ | refine LeO.ite ?_ ?_ | refine LeO.bind ?_ (fun _ => ?_)
set_option maxHeartbeats 8000000 in
set_option maxRecDepth 100000 in
theorem impl_SlopesOf.calls (k : Nat) (a0 : ByteArray) (r1 : Int) (r2 : Int) (r3 : Int) (r4 : Int) (r5 : Bool) (w : World) (h : impl_SlopesOf.f k a0 = some (r1, r2, r3, r4, r5)) :
    Calls Tryd.prog 23 #[.string a0] w fun e w' => e = .returned (.tuple #[.int .i64 r1, .int .i64 r2, .int .i64 r3, .int .i64 r4, .bool r5]) ∧ Below w.heap.size w w' := by
 have hu49 := Tryd.underlying49; have HB := mA (Below.refl w.heap.size w); have H : ((impl_IsWord.f a0).bind fun t144 => (if t144 = true then (impl_SlopesOf.j0 k a0 (a0.toList == ([] : List UInt8))) else (impl_SlopesOf.j0 k a0 true))) = some (r1, r2, r3, r4, r5) := h; clear h; have HC2 := mA H; clear H; go_enter Tryd.func23, Tryd.ntmps23
 go_upto_region 1 with (fail)
 go_cut [19] (fun v19 wc => ∃ (kq : Nat) (x19_1 : Bool), v19 = .bool x19_1 ∧ Aside0 (impl_SlopesOf.j0 kq a0 x19_1 = some (r1, r2, r3, r4, r5)) ∧ Aside0 (kq ≤ k) ∧ Aside0 (Below w.heap.size w wc))
 case first =>
  have H := HC2.out; clear HC2; obtain ⟨t144, A3, H⟩ := sqB H; by_cases c4 : t144 = true
  ·subst c4; rw [if_pos rfl] at H; have H' := mA H; clear H; go_wp2_with (first | (refine sqG 12 (some 14) Tryd.func12 #[.string a0] (h := ?_); (with_reducible refine (impl_IsWord.calls a0 true _ A3.out).mono ?_); rintro e w5 ⟨rfl, hb⟩; refine ⟨_, rfl, ?_⟩; replace HB := mA (below_step z0 hb); (try clear hb))); go_meet
   case rel => exact ⟨_, ((a0.toList == ([] : List UInt8))), z4, H', ⟨by first | omega | exact Nat.le_refl _⟩, ⟨z0⟩⟩
  replace c4 := Bool.eq_false_iff.mpr c4; subst c4; rw [if_neg (show ¬ (false = true) by decide)] at H; have H' := mA H; clear H; go_wp2_with (first | (refine sqG 12 (some 14) Tryd.func12 #[.string a0] (h := ?_); (with_reducible refine (impl_IsWord.calls a0 false _ A3.out).mono ?_); rintro e w6 ⟨rfl, hb⟩; refine ⟨_, rfl, ?_⟩; replace HB := mA (below_step z0 hb); (try clear hb))); go_meet
  case rel => exact ⟨_, (true), z4, H', ⟨by first | omega | exact Nat.le_refl _⟩, ⟨z0⟩⟩
 case rest =>
  clear HC2; (try clear c1); (try clear c2); (try clear p2); (try clear c4); obtain ⟨kq, x19_1, rfl, HA, HJ1, HB⟩ := hcut
  cases kq with
  | zero => exact absurd HA.out (by simp [impl_SlopesOf.j0])
  | succ kj1 =>
   have H := HA.out; clear HA; simp only [impl_SlopesOf.j0] at H; by_cases c7 : x19_1 = true
   ·subst c7; rw [if_pos rfl] at H; simp only [Option.some.injEq, Prod.mk.injEq] at H; obtain ⟨rfl, rfl, rfl, rfl, rfl⟩ := H; go_wp2; refine bodyPost_ret (results_list (rs := [.tmp 2, .tmp 3, .tmp 4, .tmp 5, .tmp 6]) rfl (by simp) (.tmp (.tmp (.tmp (.tmp (.tmp .nil)))))) rfl ?_; exact ⟨z6, z0⟩
   replace c7 := Bool.eq_false_iff.mpr c7; subst c7; rw [if_neg (show ¬ (false = true) by decide)] at H; obtain ⟨⟨t145, t146, t147, t148⟩, A8, H⟩ := sqB H; dsimp only at H; obtain ⟨t151, A9, H⟩ := sqB H; by_cases c10 : t151 ≥ 0
   ·rw [if_pos c10] at H; replace c10 := decide_eq_true c10; simp only [Option.some.injEq, Prod.mk.injEq] at H; obtain ⟨rfl, rfl, rfl, rfl, rfl⟩ := H
    go_wp2_with (first | (refine sqG 41 (some 22) Tryd.func41 #[.string a0] (h := ?_); (with_reducible refine (impl_slopes.calls kj1 a0 t145 t146 t147 t148 _ A8.out).mono ?_); rintro e w11 ⟨rfl, hb⟩; refine ⟨_, rfl, ?_⟩; replace HB := mA (below_step z0 hb); (try clear hb)) | (refine sqX 7 #[.int .i64 0, .int .i64 0] 49 ?_; intro gb149 hg w12 hbox hb; have BK149 := mA (hbox); have GW149 := mA ((z9 : w.heap.size ≤ gb149)); have GE149 := mA ((z9 : w.heap.size ≤ gb149)); replace HB := mA (below_step z0 hb); clear hb hbox hg) | (refine sqX 8 #[.int .i64 0, .int .i64 0] 49 ?_; intro gb150 hg w13 hbox hb; have BK150 := mA (hbox); have GW150 := mA ((z8 : w.heap.size ≤ gb150)); have GE150 := mA ((z8 : w.heap.size ≤ gb150)); replace HB := mA (below_step z2 hb); have NB149_150 := mA ((z40 BK149 : gb149 ≠ gb150)); have NB150_149 := mA ((z41 BK149 : gb150 ≠ gb149)); replace BK149 := mA (blk_below (g := gb149) (o := .cells #[.int .i64 0, .int .i64 0] 49 (0, 0)) (z1 BK149) hb); clear hb hbox hg; have hnb14 := NB149_150.out; have hnc14 := NB150_149.out; have hcz15_0 := sqZ0 BK149; have hcz15_1 := sqZ1 BK149; have hfz15_0 := blk_frozen BK149.out 0; have hfz15_1 := blk_frozen BK149.out 1; have hcz16_0 := sqZ0 BK150; have hcz16_1 := sqZ1 BK150; have hfz16_0 := blk_frozen BK150.out 0; have hfz16_1 := blk_frozen BK150.out 1) | (refine sqG 42 (some 27) Tryd.func42 #[.agg #[.int .i64 t145, .int .i64 t146], .agg #[.int .i64 t147, .int .i64 t148]] (h := ?_); (with_reducible refine (impl_worth_against.calls kj1 t145 t146 t147 t148 t151 _ A9.out).mono ?_); rintro e w17 ⟨rfl, hb⟩; refine ⟨_, rfl, ?_⟩; replace BK149 := mA (blk_below (g := gb149) (o := .cells #[.int .i64 t145, .int .i64 t146] 49 (0, 0)) (z42 NB149_150 BK149) hb); replace BK150 := mA (blk_below (g := gb150) (o := .cells #[.int .i64 t147, .int .i64 t148] 49 (0, 0)) (z43 NB150_149 BK150) hb); replace HB := mA (below_step z2 hb); (try clear hb)))
    refine bodyPost_ret (results_list (rs := [.tmp 2, .tmp 3, .tmp 4, .tmp 5, .tmp 6]) rfl (by simp) (.tmp (.tmp (.tmp (.tmp (.tmp .nil)))))) rfl ?_; exact ⟨z6, z2⟩
   rw [if_neg c10] at H; replace c10 := decide_eq_false c10; obtain ⟨⟨t152, t153⟩, A18, H⟩ := sqB H; dsimp only at H; obtain ⟨⟨t154, t155⟩, A19, H⟩ := sqB H; dsimp only at H; simp only [Option.some.injEq, Prod.mk.injEq] at H; obtain ⟨rfl, rfl, rfl, rfl, rfl⟩ := H
   go_wp2_with (first | (refine sqG 41 (some 22) Tryd.func41 #[.string a0] (h := ?_); (with_reducible refine (impl_slopes.calls kj1 a0 t145 t146 t147 t148 _ A8.out).mono ?_); rintro e w20 ⟨rfl, hb⟩; refine ⟨_, rfl, ?_⟩; replace HB := mA (below_step z0 hb); (try clear hb)) | (refine sqX 7 #[.int .i64 0, .int .i64 0] 49 ?_; intro gb149 hg w21 hbox hb; have BK149 := mA (hbox); have GW149 := mA ((z9 : w.heap.size ≤ gb149)); have GE149 := mA ((z9 : w.heap.size ≤ gb149)); replace HB := mA (below_step z0 hb); clear hb hbox hg) | (refine sqX 8 #[.int .i64 0, .int .i64 0] 49 ?_; intro gb150 hg w22 hbox hb; have BK150 := mA (hbox); have GW150 := mA ((z8 : w.heap.size ≤ gb150)); have GE150 := mA ((z8 : w.heap.size ≤ gb150)); replace HB := mA (below_step z2 hb); have NB149_150 := mA ((z40 BK149 : gb149 ≠ gb150)); have NB150_149 := mA ((z41 BK149 : gb150 ≠ gb149)); replace BK149 := mA (blk_below (g := gb149) (o := .cells #[.int .i64 0, .int .i64 0] 49 (0, 0)) (z1 BK149) hb); clear hb hbox hg; have hnb23 := NB149_150.out; have hnc23 := NB150_149.out; have hcz24_0 := sqZ0 BK149; have hcz24_1 := sqZ1 BK149; have hfz24_0 := blk_frozen BK149.out 0; have hfz24_1 := blk_frozen BK149.out 1; have hcz25_0 := sqZ0 BK150; have hcz25_1 := sqZ1 BK150; have hfz25_0 := blk_frozen BK150.out 0; have hfz25_1 := blk_frozen BK150.out 1) | (refine sqG 42 (some 27) Tryd.func42 #[.agg #[.int .i64 t145, .int .i64 t146], .agg #[.int .i64 t147, .int .i64 t148]] (h := ?_); (with_reducible refine (impl_worth_against.calls kj1 t145 t146 t147 t148 t151 _ A9.out).mono ?_); rintro e w26 ⟨rfl, hb⟩; refine ⟨_, rfl, ?_⟩; replace BK149 := mA (blk_below (g := gb149) (o := .cells #[.int .i64 t145, .int .i64 t146] 49 (0, 0)) (z42 NB149_150 BK149) hb); replace BK150 := mA (blk_below (g := gb150) (o := .cells #[.int .i64 t147, .int .i64 t148] 49 (0, 0)) (z43 NB150_149 BK150) hb); replace HB := mA (below_step z2 hb); (try clear hb); have hcz27_0 := sqZ0 BK149; have hcz27_1 := sqZ1 BK149; have hfz27_0 := blk_frozen BK149.out 0; have hfz27_1 := blk_frozen BK149.out 1) | (refine sqG 43 (some 31) Tryd.func43 #[.agg #[.int .i64 t145, .int .i64 t146]] (h := ?_); (with_reducible refine (impl_worth_lowest.calls kj1 t145 t146 t152 t153 _ A18.out).mono ?_); rintro e w28 ⟨rfl, hb⟩; refine ⟨_, rfl, ?_⟩; replace BK149 := mA (blk_below (g := gb149) (o := .cells #[.int .i64 t145, .int .i64 t146] 49 (0, 0)) (z1 BK149) hb); replace BK150 := mA (blk_below (g := gb150) (o := .cells #[.int .i64 t147, .int .i64 t148] 49 (0, 0)) (z1 BK150) hb); replace HB := mA (below_step z2 hb); (try clear hb); have hcz29_0 := sqZ0 BK150; have hcz29_1 := sqZ1 BK150; have hfz29_0 := blk_frozen BK150.out 0; have hfz29_1 := blk_frozen BK150.out 1) | (refine sqG 43 (some 36) Tryd.func43 #[.agg #[.int .i64 t147, .int .i64 t148]] (h := ?_); (with_reducible refine (impl_worth_lowest.calls kj1 t147 t148 t154 t155 _ A19.out).mono ?_); rintro e w30 ⟨rfl, hb⟩; refine ⟨_, rfl, ?_⟩; replace BK149 := mA (blk_below (g := gb149) (o := .cells #[.int .i64 t145, .int .i64 t146] 49 (0, 0)) (z1 BK149) hb); replace BK150 := mA (blk_below (g := gb150) (o := .cells #[.int .i64 t147, .int .i64 t148] 49 (0, 0)) (z1 BK150) hb); replace HB := mA (below_step z2 hb); (try clear hb)))
   refine bodyPost_ret (results_list (rs := [.tmp 2, .tmp 3, .tmp 4, .tmp 5, .tmp 6]) rfl (by simp) (.tmp (.tmp (.tmp (.tmp (.tmp .nil)))))) rfl ?_; exact ⟨z6, z2⟩

/-! ### laws_b10Long: function 26 -/
def laws_b10Long.f (l0 : List Int) (l1 : List Int) : Option (Bool) := if (l0.length : Int) > 1048576 then (some true) else (some (decide ((l1.length : Int) > 1048576)))
set_option maxHeartbeats 8000000 in
set_option maxRecDepth 100000 in
theorem laws_b10Long.calls (A0 : Option Addr) (c0 : Nat) (l0 : List Int) (A1 : Option Addr) (c1 : Nat) (l1 : List Int) (r : Bool) (w : World) (hr0 : Kd.C (Kd.int .u8) w A0 l0.length l0) (hc0 : l0.length ≤ c0) (hr1 : Kd.C (Kd.int .u8) w A1 l1.length l1) (hc1 : l1.length ≤ c1) (h : laws_b10Long.f l0 l1 = some r) :
    Calls Tryd.prog 26 #[.slice A0 l0.length c0, .slice A1 l1.length c1] w fun e w' => e = .returned (.bool r) ∧ Drawn0 w w' := by
 have HR0 := mA hr0; have HC0 := mA hc0; clear hr0 hc0; have HR1 := mA hr1; have HC1 := mA hc1; clear hr1 hc1; have H : (if (l0.length : Int) > 1048576 then (some true) else (some (decide ((l1.length : Int) > 1048576)))) = some r := h; clear h; by_cases c3 : (l0.length : Int) > 1048576
 ·rw [if_pos c3] at H; have c3b0 := decide_eq_true c3; have c3b1 : decide (1048576 < l0.length) = true := decide_eq_true (by omega); clear c3; obtain rfl := Option.some.inj H; go_enter Tryd.func26, Tryd.ntmps26; go_wp2; go_ret; exact ⟨z4, z7⟩
 rw [if_neg c3] at H; have c3b0 := decide_eq_false c3; have c3b1 : decide (1048576 < l0.length) = false := decide_eq_false (by omega); clear c3; obtain rfl := Option.some.inj H; go_enter Tryd.func26, Tryd.ntmps26; go_wp2; go_ret; exact ⟨z4, z7⟩

/-! ### impl_within: function 49 -/
def impl_within.f (a0 : Int) (a1 : Int) (a2 : Int) : Option (Bool) := if a1 ≤ a0 then (some (decide (a0 ≤ a2))) else (some false)
set_option maxHeartbeats 8000000 in
set_option maxRecDepth 100000 in
theorem impl_within.calls (a0 : Int) (a1 : Int) (a2 : Int) (r : Bool) (w : World) (h : impl_within.f a0 a1 a2 = some r) :
    Calls Tryd.prog 49 #[.int .i64 a0, .int .i64 a1, .int .i64 a2] w fun e w' => e = .returned (.bool r) ∧ Drawn0 w w' := by
 have H : (if a1 ≤ a0 then (some (decide (a0 ≤ a2))) else (some false)) = some r := h; clear h; by_cases c4 : a1 ≤ a0
 ·rw [if_pos c4] at H; replace c4 := decide_eq_true c4; obtain rfl := Option.some.inj H; go_enter Tryd.func49, Tryd.ntmps49; go_wp2; go_ret; exact ⟨z4, z7⟩
 rw [if_neg c4] at H; replace c4 := decide_eq_false c4; obtain rfl := Option.some.inj H; go_enter Tryd.func49, Tryd.ntmps49; go_wp2; go_ret; exact ⟨z4, z7⟩

/-! ### impl_floor: function 52 -/
def impl_floor.f (a0 : Int) (a1 : Int) : Option (Int) := if a1 = 0 then (none) else (if (Int.tmod a0 a1) < 0 then (some (wrap64 ((wrap64 (Int.tdiv a0 a1)) - 1))) else (some (wrap64 (Int.tdiv a0 a1))))
set_option maxHeartbeats 8000000 in
set_option maxRecDepth 100000 in
theorem impl_floor.calls (a0 : Int) (a1 : Int) (r : Int) (w : World) (h : impl_floor.f a0 a1 = some r) :
    Calls Tryd.prog 52 #[.int .i64 a0, .int .i64 a1] w fun e w' => e = .returned (.int .i64 r) ∧ Drawn0 w w' := by
 have H : (if a1 = 0 then (none) else (if (Int.tmod a0 a1) < 0 then (some (wrap64 ((wrap64 (Int.tdiv a0 a1)) - 1))) else (some (wrap64 (Int.tdiv a0 a1))))) = some r := h; clear h; obtain ⟨c3, H⟩ := sqJ H; have c3b0 : (a1 == 0) = false := beq_eq_false_iff_ne.mpr c3; have c3b1 : (a1 != 0) = true := bne_iff_ne.mpr c3; by_cases c4 : (Int.tmod a0 a1) < 0
 ·rw [if_pos c4] at H; replace c4 := decide_eq_true c4; obtain rfl := Option.some.inj H; go_enter Tryd.func52, Tryd.ntmps52; go_wp2; go_ret; exact ⟨z4, z7⟩
 rw [if_neg c4] at H; replace c4 := decide_eq_false c4; obtain rfl := Option.some.inj H; go_enter Tryd.func52, Tryd.ntmps52; go_wp2; go_ret; exact ⟨z4, z7⟩

/-! ### impl_steps: function 50 -/
def impl_steps.l0 : Nat → Int → Int → Int → Int → Int → List Int → Int → Int → Option (ByteArray)
  | 0, _, _, _, _, _, _, _, _ => none
  | k + 1, x0, x1, x2, x4, x5, x13, x16, x17 => if x17 < x16 then ((impl_floor.f (wrap64 ((wrap64 ((wrap64 (x17 + 1)) * x0)) + x2)) x1).bind fun t159 => ((impl_floor.f (wrap64 ((wrap64 (x17 * x0)) + x2)) x1).bind fun t160 => (if t159 > t160 then (if x13.length < 140737488355328 then (impl_steps.l0 k x0 x1 x2 x4 x5 (x13 ++ [x4]) x16 (wrap64 (x17 + 1))) else (none)) else (if x13.length < 140737488355328 then (impl_steps.l0 k x0 x1 x2 x4 x5 (x13 ++ [x5]) x16 (wrap64 (x17 + 1))) else (none))))) else (some (strOfNums x13))
def impl_steps.f (k : Nat) (a0 : Int) (a1 : Int) (a2 : Int) (a3 : Int) (a4 : Int) (a5 : Int) : Option (ByteArray) := impl_steps.l0 k a0 a1 a2 a4 a5 (([] : List Int)) a3 0
theorem impl_steps.mono_l : ∀ k, (∀ y0 y1 y2 y3 y4 y5 y6 y7, LeO (impl_steps.l0 k y0 y1 y2 y3 y4 y5 y6 y7) (impl_steps.l0 (k + 1) y0 y1 y2 y3 y4 y5 y6 y7))
  | 0 => fun _ _ _ _ _ _ _ _ r h => by simp [impl_steps.l0] at h
  | k + 1 => by
   have ih0 := impl_steps.mono_l k
   intros
   unfold impl_steps.l0
   all_goals repeat' first | (with_reducible first | apply ih0 | exact LeO.refl _ | exact LeO.none _ | refine LeO.ite ?_ ?_ | refine LeO.bind ?_ (fun _ => ?_)) | apply ih0 | exact LeO.none _ | refine LeO.ite ?_ ?_ | refine LeO.bind ?_ (fun _ => ?_)
theorem impl_steps.mono : ∀ a0 a1 a2 a3 a4 a5 k, LeO (impl_steps.f k a0 a1 a2 a3 a4 a5) (impl_steps.f (k + 1) a0 a1 a2 a3 a4 a5) := by
  intro a0 a1 a2 a3 a4 a5 k
  have ih0 := impl_steps.mono_l k
  unfold impl_steps.f
  repeat' first | (with_reducible first | apply ih0 | exact LeO.refl _ | exact LeO.none _ | refine LeO.ite ?_ ?_ | refine LeO.bind ?_ (fun _ => ?_)) | apply ih0 | exact LeO.none _ | refine LeO.ite ?_ ?_ | refine LeO.bind ?_ (fun _ => ?_)
set_option maxHeartbeats 8000000 in
set_option maxRecDepth 100000 in
theorem impl_steps.calls (k : Nat) (a0 : Int) (a1 : Int) (a2 : Int) (a3 : Int) (a4 : Int) (a5 : Int) (r : ByteArray) (w : World) (h : impl_steps.f k a0 a1 a2 a3 a4 a5 = some r) :
    Calls Tryd.prog 50 #[.int .i64 a0, .int .i64 a1, .int .i64 a2, .int .i64 a3, .int .u8 a4, .int .u8 a5] w fun e w' => e = .returned (.string r) ∧ Below w.heap.size w w' := by
 have HB := mA (Below.refl w.heap.size w); have H : (impl_steps.l0 k a0 a1 a2 a4 a5 (([] : List Int)) a3 0) = some r := h; clear h; obtain ⟨y156, hy156⟩ : ∃ y_ : List Int, y_ = (([] : List Int)) := ⟨_, rfl⟩
 replace H : (impl_steps.l0 k a0 a1 a2 a4 a5 y156 a3 0) = some r := by first | (rw [hy156]; with_reducible exact H) | (have H2_ := (Option.bind_some _ _).symm.trans H; rw [hy156]; with_reducible exact H2_) | (have H2_ := (Option.bind_some _ _).symm.trans H; with_reducible exact H2_) | with_reducible exact H | (rw [hy156]; exact H) | exact H
 have Ny156 := mA hy156; clear hy156; have H' := mA H; clear H; go_enter Tryd.func50, Tryd.ntmps50; go_wp2_with (first | ((with_reducible refine gate_dst (N := 15) rfl ?_); refine Kd.R_lit (Kd.int .u8) _ 5 ?hg (N := 15) ?hd (xs := ([] : List Int)) (inner := []) (ok := fun _ => True) (okp := fun _ => True) ?hr ?hp (fun _ hk => hk) trivial (Below.refl _ _) (Nat.le_refl _) (by simp) ?_; (case hd => rfl); (case hg => rfl); (case hr => first | (go_simp; done) | (go_simp; rfl)); (case hp => exact (Reps.none _ _)); intro v157 w7 ho8 hb hg_ hnew_; clear hg_ hnew_; (first | rw [← Ny156.out] at ho8 | (simp only [Int.reduceToNat] at ho8; rw [← Ny156.out] at ho8)); have HO158 := mA (Kd.R_lower ho8 (below_size z0)); replace HB := mA (below_step z0 hb); clear hb ho8)); go_loopg [13, 17] k (fun kq v13 v17 w' => ∃ (x13_1 : List Int) (x17_1 : Int), v17 = .int .i64 x17_1 ∧ Aside0 (impl_steps.l0 kq a0 a1 a2 a4 a5 x13_1 a3 x17_1 = some r) ∧ Aside0 (kq ≤ k) ∧ Aside0 (Kd.R (Kd.int .u8) 5 w' w.heap.size (fun _ => True) v13 x13_1) ∧ Aside0 (Below w.heap.size w w'))
 case atStart => exact ⟨(y156), (0), z4, H', ⟨Nat.le_refl _⟩, ⟨z5 HO158⟩, ⟨z0⟩⟩
 case round =>
  clear H'; (try clear p2); (try clear c5); obtain ⟨x13_1, x17_1, rfl, HA, HK1, HO_13, HB⟩ := hrel
  cases gk with
  | zero => exact absurd HA.out (by simp [impl_steps.l0])
  | succ k1 =>
   have H := HA.out; clear HA; simp only [impl_steps.l0] at H; refine sqC (x17_1 < a3) (fun c9 => ?_) (fun c9 => ?_)
   ·rw [if_neg c9] at H; replace c9 := decide_eq_false c9; obtain rfl := Option.some.inj H; have hcv17 := own_string (P := Tryd.prog) Tryd.underlying34 Tryd.underlying5 Tryd.underlying9 (Kd.own_of_R HO_13.out); go_wp2; go_ret; exact ⟨z6, z0⟩
   rw [if_pos c9] at H; replace c9 := decide_eq_true c9; obtain ⟨t159, A10, H⟩ := sqB H; obtain ⟨t160, A11, H⟩ := sqB H; by_cases c12 : t159 > t160
   ·rw [if_pos c12] at H; replace c12 := decide_eq_true c12; obtain ⟨c13, H⟩ := sqI H; have LMc13 := mA c13; clear c13; obtain ⟨y161, hy161⟩ : ∃ y_ : List Int, y_ = (x13_1 ++ [a4]) := ⟨_, rfl⟩
    replace H : (impl_steps.l0 k1 a0 a1 a2 a4 a5 y161 a3 (wrap64 (x17_1 + 1))) = some r := by first | (rw [hy161]; with_reducible exact H) | (have H2_ := (Option.bind_some _ _).symm.trans H; rw [hy161]; with_reducible exact H2_) | (have H2_ := (Option.bind_some _ _).symm.trans H; with_reducible exact H2_) | with_reducible exact H | (rw [hy161]; exact H) | exact H
    have Ny161 := mA hy161; clear hy161; have H' := mA H; clear H; go_wp2_with (first | (refine sqG 52 (some 27) Tryd.func52 #[.int .i64 (wrap64 ((wrap64 ((wrap64 (x17_1 + 1)) * a0)) + a2)), .int .i64 a1] (h := ?_); (with_reducible refine (impl_floor.calls (wrap64 ((wrap64 ((wrap64 (x17_1 + 1)) * a0)) + a2)) a1 t159 _ A10.out).mono ?_); rintro e w' ⟨rfl, ⟨nd, rfl⟩⟩; refine ⟨_, rfl, ?_⟩) | (refine sqG 52 (some 34) Tryd.func52 #[.int .i64 (wrap64 ((wrap64 (x17_1 * a0)) + a2)), .int .i64 a1] (h := ?_); (with_reducible refine (impl_floor.calls (wrap64 ((wrap64 (x17_1 * a0)) + a2)) a1 t160 _ A11.out).mono ?_); rintro e w' ⟨rfl, ⟨nd, rfl⟩⟩; refine ⟨_, rfl, ?_⟩) | ((with_reducible refine gate_builtin (b := .append) (xs := #[.tmp 36, .tmp 38]) rfl ?_); at_builtin; refine Kd.R_append (Kd.int .u8) (w0 := w) w.heap.size rfl (.tmp 36) (.tmp 38) 34 5 (.int .u8 0) 1 rfl Tryd.underlying34 info5 rfl (by decide) (by omega) u13 x13_1 a4 [.int .u8 a4] (fun _ => True) (fun _ => False) rfl rfl ?aP (fun _ hk => hk.elim) ?aF ?aO ?aB ?aS ?aL ?_; (case aP => exact rfl); (case aB => exact z0); (case aF => exact (fun _ _ => trivial)); (case aO => exact (z5 HO_13)); (case aS => exact (below_size z0)); (case aL => have := LMc13.out; omega); intro v162 w14 ho hb hg hat; rw [← Ny161.out] at ho; replace HB := mA (hb); have HO163 := mA (ho); clear HO_13 ho hb hg hat)); go_roundg k1
    case measure => have := HK1.out; omega
    case rel => exact ⟨(y161), (wrap64 (x17_1 + 1)), z4, H', ⟨by have := HK1.out; omega⟩, ⟨z5 HO163⟩, ⟨z0⟩⟩
   rw [if_neg c12] at H; replace c12 := decide_eq_false c12; obtain ⟨c15, H⟩ := sqI H; have LMc15 := mA c15; clear c15; obtain ⟨y164, hy164⟩ : ∃ y_ : List Int, y_ = (x13_1 ++ [a5]) := ⟨_, rfl⟩
   replace H : (impl_steps.l0 k1 a0 a1 a2 a4 a5 y164 a3 (wrap64 (x17_1 + 1))) = some r := by first | (rw [hy164]; with_reducible exact H) | (have H2_ := (Option.bind_some _ _).symm.trans H; rw [hy164]; with_reducible exact H2_) | (have H2_ := (Option.bind_some _ _).symm.trans H; with_reducible exact H2_) | with_reducible exact H | (rw [hy164]; exact H) | exact H
   have Ny164 := mA hy164; clear hy164; have H' := mA H; clear H; go_wp2_with (first | (refine sqG 52 (some 27) Tryd.func52 #[.int .i64 (wrap64 ((wrap64 ((wrap64 (x17_1 + 1)) * a0)) + a2)), .int .i64 a1] (h := ?_); (with_reducible refine (impl_floor.calls (wrap64 ((wrap64 ((wrap64 (x17_1 + 1)) * a0)) + a2)) a1 t159 _ A10.out).mono ?_); rintro e w' ⟨rfl, ⟨nd, rfl⟩⟩; refine ⟨_, rfl, ?_⟩) | (refine sqG 52 (some 34) Tryd.func52 #[.int .i64 (wrap64 ((wrap64 (x17_1 * a0)) + a2)), .int .i64 a1] (h := ?_); (with_reducible refine (impl_floor.calls (wrap64 ((wrap64 (x17_1 * a0)) + a2)) a1 t160 _ A11.out).mono ?_); rintro e w' ⟨rfl, ⟨nd, rfl⟩⟩; refine ⟨_, rfl, ?_⟩) | ((with_reducible refine gate_builtin (b := .append) (xs := #[.tmp 40, .tmp 42]) rfl ?_); at_builtin; refine Kd.R_append (Kd.int .u8) (w0 := w) w.heap.size rfl (.tmp 40) (.tmp 42) 34 5 (.int .u8 0) 1 rfl Tryd.underlying34 info5 rfl (by decide) (by omega) u13 x13_1 a5 [.int .u8 a5] (fun _ => True) (fun _ => False) rfl rfl ?aP (fun _ hk => hk.elim) ?aF ?aO ?aB ?aS ?aL ?_; (case aP => exact rfl); (case aB => exact z0); (case aF => exact (fun _ _ => trivial)); (case aO => exact (z5 HO_13)); (case aS => exact (below_size z0)); (case aL => have := LMc15.out; omega); intro v165 w16 ho hb hg hat; rw [← Ny164.out] at ho; replace HB := mA (hb); have HO166 := mA (ho); clear HO_13 ho hb hg hat)); go_roundg k1
   case measure => have := HK1.out; omega
   case rel => exact ⟨(y164), (wrap64 (x17_1 + 1)), z4, H', ⟨by have := HK1.out; omega⟩, ⟨z5 HO166⟩, ⟨z0⟩⟩

/-! ### impl_LineWord: function 29 -/
def impl_LineWord.f (k : Nat) (a0 : Int) (a1 : Int) (a2 : Int) (a3 : Int) : Option (ByteArray × Bool) := (impl_within.f a1 1 1000).bind fun t167 => (if t167 = true then ((impl_within.f a0 0 a1).bind fun t168 => (if t168 = true then ((impl_within.f a2 0 (wrap64 (a1 - 1))).bind fun t169 => (if t169 = true then ((impl_within.f a3 0 120).bind fun t170 => (if t170 = true then ((impl_steps.f k a0 a1 a2 a3 98 97).bind fun t171 => (some (t171, true))) else (some ((⟨#[]⟩ : ByteArray), false)))) else (some ((⟨#[]⟩ : ByteArray), false)))) else (some ((⟨#[]⟩ : ByteArray), false)))) else (some ((⟨#[]⟩ : ByteArray), false)))
theorem impl_LineWord.mono : ∀ a0 a1 a2 a3 k, LeO (impl_LineWord.f k a0 a1 a2 a3) (impl_LineWord.f (k + 1) a0 a1 a2 a3) := by
  intro a0 a1 a2 a3 k
  unfold impl_LineWord.f
  repeat' first | (with_reducible first | apply impl_steps.mono | exact LeO.refl _ | exact LeO.none _ | refine LeO.ite ?_ ?_ | refine LeO.bind ?_ (fun _ => ?_)) | apply impl_steps.mono | exact LeO.none _ | refine LeO.ite ?_ ?_ | refine LeO.bind ?_ (fun _ => ?_)
set_option maxHeartbeats 8000000 in
set_option maxRecDepth 100000 in
theorem impl_LineWord.calls (k : Nat) (a0 : Int) (a1 : Int) (a2 : Int) (a3 : Int) (r1 : ByteArray) (r2 : Bool) (w : World) (h : impl_LineWord.f k a0 a1 a2 a3 = some (r1, r2)) :
    Calls Tryd.prog 29 #[.int .i64 a0, .int .i64 a1, .int .i64 a2, .int .i64 a3] w fun e w' => e = .returned (.tuple #[.string r1, .bool r2]) ∧ Below w.heap.size w w' := by
 have HB := mA (Below.refl w.heap.size w); have H : ((impl_within.f a1 1 1000).bind fun t167 => (if t167 = true then ((impl_within.f a0 0 a1).bind fun t168 => (if t168 = true then ((impl_within.f a2 0 (wrap64 (a1 - 1))).bind fun t169 => (if t169 = true then ((impl_within.f a3 0 120).bind fun t170 => (if t170 = true then ((impl_steps.f k a0 a1 a2 a3 98 97).bind fun t171 => (some (t171, true))) else (some ((⟨#[]⟩ : ByteArray), false)))) else (some ((⟨#[]⟩ : ByteArray), false)))) else (some ((⟨#[]⟩ : ByteArray), false)))) else (some ((⟨#[]⟩ : ByteArray), false)))) = some (r1, r2) := h; clear h; obtain ⟨t167, A5, H⟩ := sqB H; refine sqC (t167 = true) (fun c6 => ?_) (fun c6 => ?_)
 ·replace c6 := Bool.eq_false_iff.mpr c6; subst c6; rw [if_neg (show ¬ (false = true) by decide)] at H; simp only [Option.some.injEq, Prod.mk.injEq] at H; obtain ⟨rfl, rfl⟩ := H; go_enter Tryd.func29, Tryd.ntmps29; go_wp2_with (first | (refine sqG 49 (some 11) Tryd.func49 #[.int .i64 a1, .int .i64 1, .int .i64 1000] (h := ?_); (with_reducible refine (impl_within.calls a1 1 1000 false _ A5.out).mono ?_); rintro e w' ⟨rfl, ⟨nd, rfl⟩⟩; refine ⟨_, rfl, ?_⟩)); go_ret2; exact ⟨z6, z0⟩
 subst c6; rw [if_pos rfl] at H; obtain ⟨t168, A7, H⟩ := sqB H; refine sqC (t168 = true) (fun c8 => ?_) (fun c8 => ?_)
 ·replace c8 := Bool.eq_false_iff.mpr c8; subst c8; rw [if_neg (show ¬ (false = true) by decide)] at H; simp only [Option.some.injEq, Prod.mk.injEq] at H; obtain ⟨rfl, rfl⟩ := H; go_enter Tryd.func29, Tryd.ntmps29; go_wp2_with (first | (refine sqG 49 (some 11) Tryd.func49 #[.int .i64 a1, .int .i64 1, .int .i64 1000] (h := ?_); (with_reducible refine (impl_within.calls a1 1 1000 true _ A5.out).mono ?_); rintro e w' ⟨rfl, ⟨nd, rfl⟩⟩; refine ⟨_, rfl, ?_⟩) | (go_at_call 49; (with_reducible refine (impl_within.calls a0 0 a1 false _ A7.out).mono ?_); rintro e w' ⟨rfl, ⟨nd, rfl⟩⟩)); go_ret2; exact ⟨z6, z0⟩
 subst c8; rw [if_pos rfl] at H; obtain ⟨t169, A9, H⟩ := sqB H; refine sqC (t169 = true) (fun c10 => ?_) (fun c10 => ?_)
 ·replace c10 := Bool.eq_false_iff.mpr c10; subst c10; rw [if_neg (show ¬ (false = true) by decide)] at H; simp only [Option.some.injEq, Prod.mk.injEq] at H; obtain ⟨rfl, rfl⟩ := H; go_enter Tryd.func29, Tryd.ntmps29; go_wp2_with (first | (refine sqG 49 (some 11) Tryd.func49 #[.int .i64 a1, .int .i64 1, .int .i64 1000] (h := ?_); (with_reducible refine (impl_within.calls a1 1 1000 true _ A5.out).mono ?_); rintro e w' ⟨rfl, ⟨nd, rfl⟩⟩; refine ⟨_, rfl, ?_⟩) | (go_at_call 49; (with_reducible refine (impl_within.calls a0 0 a1 true _ A7.out).mono ?_); rintro e w' ⟨rfl, ⟨nd, rfl⟩⟩) | (go_at_call 49; (with_reducible refine (impl_within.calls a2 0 (wrap64 (a1 - 1)) false _ A9.out).mono ?_); rintro e w' ⟨rfl, ⟨nd, rfl⟩⟩)); go_ret2; exact ⟨z6, z0⟩
 subst c10; rw [if_pos rfl] at H; obtain ⟨t170, A11, H⟩ := sqB H; refine sqC (t170 = true) (fun c12 => ?_) (fun c12 => ?_)
 ·replace c12 := Bool.eq_false_iff.mpr c12; subst c12; rw [if_neg (show ¬ (false = true) by decide)] at H; simp only [Option.some.injEq, Prod.mk.injEq] at H; obtain ⟨rfl, rfl⟩ := H; go_enter Tryd.func29, Tryd.ntmps29; go_wp2_with (first | (refine sqG 49 (some 11) Tryd.func49 #[.int .i64 a1, .int .i64 1, .int .i64 1000] (h := ?_); (with_reducible refine (impl_within.calls a1 1 1000 true _ A5.out).mono ?_); rintro e w' ⟨rfl, ⟨nd, rfl⟩⟩; refine ⟨_, rfl, ?_⟩) | (go_at_call 49; (with_reducible refine (impl_within.calls a0 0 a1 true _ A7.out).mono ?_); rintro e w' ⟨rfl, ⟨nd, rfl⟩⟩) | (go_at_call 49; (with_reducible refine (impl_within.calls a2 0 (wrap64 (a1 - 1)) true _ A9.out).mono ?_); rintro e w' ⟨rfl, ⟨nd, rfl⟩⟩) | (go_at_call 49; (with_reducible refine (impl_within.calls a3 0 120 false _ A11.out).mono ?_); rintro e w' ⟨rfl, ⟨nd, rfl⟩⟩)); go_ret2; exact ⟨z6, z0⟩
 subst c12; rw [if_pos rfl] at H; obtain ⟨t171, A13, H⟩ := sqB H; simp only [Option.some.injEq, Prod.mk.injEq] at H; obtain ⟨rfl, rfl⟩ := H; go_enter Tryd.func29, Tryd.ntmps29; go_wp2_with (first | (refine sqG 49 (some 11) Tryd.func49 #[.int .i64 a1, .int .i64 1, .int .i64 1000] (h := ?_); (with_reducible refine (impl_within.calls a1 1 1000 true _ A5.out).mono ?_); rintro e w' ⟨rfl, ⟨nd, rfl⟩⟩; refine ⟨_, rfl, ?_⟩) | (go_at_call 49; (with_reducible refine (impl_within.calls a0 0 a1 true _ A7.out).mono ?_); rintro e w' ⟨rfl, ⟨nd, rfl⟩⟩) | (go_at_call 49; (with_reducible refine (impl_within.calls a2 0 (wrap64 (a1 - 1)) true _ A9.out).mono ?_); rintro e w' ⟨rfl, ⟨nd, rfl⟩⟩) | (go_at_call 49; (with_reducible refine (impl_within.calls a3 0 120 true _ A11.out).mono ?_); rintro e w' ⟨rfl, ⟨nd, rfl⟩⟩) | (refine sqG 50 (some 35) Tryd.func50 #[.int .i64 a0, .int .i64 a1, .int .i64 a2, .int .i64 a3, .int .u8 98, .int .u8 97] (h := ?_); (with_reducible refine (impl_steps.calls k a0 a1 a2 a3 98 97 t171 _ A13.out).mono ?_); rintro e w14 ⟨rfl, hb⟩; refine ⟨_, rfl, ?_⟩; replace HB := mA (below_step z0 hb); (try clear hb))); go_ret2; exact ⟨z6, z0⟩

/-! ### laws_b10At: function 30 -/
def laws_b10At.f (l0 : List Int) (a1 : Int) (a2 : Int) : Option (Int) := if a2 ≤ 1 then (some 0) else (if a1 < (l0.length : Int) then (if 0 ≤ a1 then (if a2 = 0 then (none) else (some (Int.tmod (wrap64 (rd l0 a1)) a2))) else (none)) else (if a2 = 0 then (none) else (some (Int.tmod (wrap64 ((wrap64 (a1 * 37)) + 11)) a2))))
set_option maxHeartbeats 8000000 in
set_option maxRecDepth 100000 in
theorem laws_b10At.calls (A0 : Option Addr) (c0 : Nat) (l0 : List Int) (a1 : Int) (a2 : Int) (r : Int) (w : World) (hr0 : Kd.C (Kd.int .u8) w A0 l0.length l0) (hc0 : l0.length ≤ c0) (h : laws_b10At.f l0 a1 a2 = some r) :
    Calls Tryd.prog 30 #[.slice A0 l0.length c0, .int .i64 a1, .int .i64 a2] w fun e w' => e = .returned (.int .i64 r) ∧ Drawn0 w w' := by
 have HR0 := mA hr0; have HC0 := mA hc0; clear hr0 hc0; have H : (if a2 ≤ 1 then (some 0) else (if a1 < (l0.length : Int) then (if 0 ≤ a1 then (if a2 = 0 then (none) else (some (Int.tmod (wrap64 (rd l0 a1)) a2))) else (none)) else (if a2 = 0 then (none) else (some (Int.tmod (wrap64 ((wrap64 (a1 * 37)) + 11)) a2))))) = some r := h; clear h; by_cases c4 : a2 ≤ 1
 ·rw [if_pos c4] at H; replace c4 := decide_eq_true c4; obtain rfl := Option.some.inj H; go_enter Tryd.func30, Tryd.ntmps30; go_wp2; go_ret; exact ⟨z4, z7⟩
 rw [if_neg c4] at H; replace c4 := decide_eq_false c4; refine sqC (a1 < (l0.length : Int)) (fun c5 => ?_) (fun c5 => ?_)
 ·rw [if_neg c5] at H; replace c5 := decide_eq_false c5; obtain ⟨c8, H⟩ := sqJ H; have c8b0 : (a2 == 0) = false := beq_eq_false_iff_ne.mpr c8; have c8b1 : (a2 != 0) = true := bne_iff_ne.mpr c8; obtain rfl := Option.some.inj H; go_enter Tryd.func30, Tryd.ntmps30; go_wp2; go_ret; exact ⟨z4, z7⟩
 rw [if_pos c5] at H; replace c5 := decide_eq_true c5; obtain ⟨c6, H⟩ := sqI H; replace c6 := decide_eq_true c6; obtain ⟨c7, H⟩ := sqJ H; have c7b0 : (a2 == 0) = false := beq_eq_false_iff_ne.mpr c7; have c7b1 : (a2 != 0) = true := bne_iff_ne.mpr c7; obtain rfl := Option.some.inj H; have p172 : 0 ≤ (a1 : Int) := sqd; have q172 : a1 < (l0.length : Int) := sqd; obtain ⟨ad172, e172, hx172_0⟩ := Kd.at_int HR0.out a1 p172 q172
 cases e172
 replace p172 := eq_true p172; replace q172 := eq_true q172; go_enter Tryd.func30, Tryd.ntmps30; go_wp2; go_ret; exact ⟨z4, z7⟩

-- told with its function values: function 51 (impl_divided)

/-! ### impl_divided_impl_floor: function 51 -/
def impl_divided_impl_floor.f (a0 : Int) (a1 : Int)  : Option (Int × Bool) := (impl_within.f a0 (-1000000000) 1000000000).bind fun t173 => (if t173 = true then ((impl_within.f a1 1 1000000000).bind fun t174 => (if t174 = true then ((impl_floor.f a0 a1).bind fun t175 => (some (t175, true))) else (some (0, false)))) else (some (0, false)))
set_option maxHeartbeats 8000000 in
set_option maxRecDepth 100000 in
theorem impl_divided_impl_floor.calls (a0 : Int) (a1 : Int)  (r1 : Int) (r2 : Bool) (w : World) (h : impl_divided_impl_floor.f a0 a1 = some (r1, r2)) :
    Calls Tryd.prog 51 #[.int .i64 a0, .int .i64 a1, .func (.func 52) #[] #[]] w fun e w' => e = .returned (.tuple #[.int .i64 r1, .bool r2]) ∧ Below w.heap.size w w' := by
 have HB := mA (Below.refl w.heap.size w); have H : ((impl_within.f a0 (-1000000000) 1000000000).bind fun t173 => (if t173 = true then ((impl_within.f a1 1 1000000000).bind fun t174 => (if t174 = true then ((impl_floor.f a0 a1).bind fun t175 => (some (t175, true))) else (some (0, false)))) else (some (0, false)))) = some (r1, r2) := h; clear h; obtain ⟨t173, A4, H⟩ := sqB H; refine sqC (t173 = true) (fun c5 => ?_) (fun c5 => ?_)
 ·replace c5 := Bool.eq_false_iff.mpr c5; subst c5; rw [if_neg (show ¬ (false = true) by decide)] at H; simp only [Option.some.injEq, Prod.mk.injEq] at H; obtain ⟨rfl, rfl⟩ := H; go_enter Tryd.func51, Tryd.ntmps51; go_wp2_with (first | (refine sqG 49 (some 9) Tryd.func49 #[.int .i64 a0, .int .i64 (-1000000000), .int .i64 1000000000] (h := ?_); (with_reducible refine (impl_within.calls a0 (-1000000000) 1000000000 false _ A4.out).mono ?_); rintro e w' ⟨rfl, ⟨nd, rfl⟩⟩; refine ⟨_, rfl, ?_⟩)); go_ret2; exact ⟨z6, z0⟩
 subst c5; rw [if_pos rfl] at H; obtain ⟨t174, A6, H⟩ := sqB H; refine sqC (t174 = true) (fun c7 => ?_) (fun c7 => ?_)
 ·replace c7 := Bool.eq_false_iff.mpr c7; subst c7; rw [if_neg (show ¬ (false = true) by decide)] at H; simp only [Option.some.injEq, Prod.mk.injEq] at H; obtain ⟨rfl, rfl⟩ := H; go_enter Tryd.func51, Tryd.ntmps51; go_wp2_with (first | (refine sqG 49 (some 9) Tryd.func49 #[.int .i64 a0, .int .i64 (-1000000000), .int .i64 1000000000] (h := ?_); (with_reducible refine (impl_within.calls a0 (-1000000000) 1000000000 true _ A4.out).mono ?_); rintro e w' ⟨rfl, ⟨nd, rfl⟩⟩; refine ⟨_, rfl, ?_⟩) | (go_at_call 49; (with_reducible refine (impl_within.calls a1 1 1000000000 false _ A6.out).mono ?_); rintro e w' ⟨rfl, ⟨nd, rfl⟩⟩)); go_ret2; exact ⟨z6, z0⟩
 subst c7; rw [if_pos rfl] at H; obtain ⟨t175, A8, H⟩ := sqB H; simp only [Option.some.injEq, Prod.mk.injEq] at H; obtain ⟨rfl, rfl⟩ := H; go_enter Tryd.func51, Tryd.ntmps51; go_wp2_with (first | (refine sqG 49 (some 9) Tryd.func49 #[.int .i64 a0, .int .i64 (-1000000000), .int .i64 1000000000] (h := ?_); (with_reducible refine (impl_within.calls a0 (-1000000000) 1000000000 true _ A4.out).mono ?_); rintro e w' ⟨rfl, ⟨nd, rfl⟩⟩; refine ⟨_, rfl, ?_⟩) | (go_at_call 49; (with_reducible refine (impl_within.calls a1 1 1000000000 true _ A6.out).mono ?_); rintro e w' ⟨rfl, ⟨nd, rfl⟩⟩) | (go_at_call 52; (with_reducible refine (impl_floor.calls a0 a1 t175 _ A8.out).mono ?_); rintro e w' ⟨rfl, ⟨nd, rfl⟩⟩)); go_ret2; exact ⟨z6, z0⟩

/-! ### impl_DivFloor: function 31 -/
def impl_DivFloor.f (a0 : Int) (a1 : Int) : Option (Int × Bool) := (impl_divided_impl_floor.f a0 a1).bind fun bt176 => (some (bt176.1, bt176.2))
set_option maxHeartbeats 8000000 in
set_option maxRecDepth 100000 in
theorem impl_DivFloor.calls (a0 : Int) (a1 : Int) (r1 : Int) (r2 : Bool) (w : World) (h : impl_DivFloor.f a0 a1 = some (r1, r2)) :
    Calls Tryd.prog 31 #[.int .i64 a0, .int .i64 a1] w fun e w' => e = .returned (.tuple #[.int .i64 r1, .bool r2]) ∧ Below w.heap.size w w' := by
 have HB := mA (Below.refl w.heap.size w); have H : ((impl_divided_impl_floor.f a0 a1).bind fun bt176 => (some (bt176.1, bt176.2))) = some (r1, r2) := h; clear h; obtain ⟨⟨t176, t177⟩, A3, H⟩ := sqB H; dsimp only at H; simp only [Option.some.injEq, Prod.mk.injEq] at H; obtain ⟨rfl, rfl⟩ := H; go_enter Tryd.func31, Tryd.ntmps31; go_wp2_with (first | (refine sqG 51 (some 8) Tryd.func51 #[.int .i64 a0, .int .i64 a1, .func (.func 52) #[] #[]] (h := ?_); (with_reducible refine (impl_divided_impl_floor.calls a0 a1  t176 t177 _ A3.out).mono ?_); rintro e w4 ⟨rfl, hb⟩; refine ⟨_, rfl, ?_⟩; replace HB := mA (below_step z0 hb); (try clear hb))); go_ret2; exact ⟨z6, z0⟩

end Go.Proofs.YtkmghekffehimaaDoor.PFnLines
