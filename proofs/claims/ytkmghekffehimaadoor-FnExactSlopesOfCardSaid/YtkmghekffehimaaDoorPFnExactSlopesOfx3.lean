/- Written by this session's program (wip/tool/xprint.py) over the kit's printer. -/
import Derived.Test.YtkmghekffehimaaDoorPFnExactSlopesOfx0
import Derived.Test.YtkmghekffehimaaDoorPFnExactSlopesOfx2
namespace Go.Proofs.YtkmghekffehimaaDoor.PFnExactSlopesOf
open Go.RowKit Go.Proofs.YtkmghekffehimaaDoorW.PrintWords Go.Proofs.YtkmghekffehimaaDoorW.PrintLast Go.Proofs.YtkmghekffehimaaDoorW.PrintMore
attribute [local go_sem] max2_int min2_int max_two min_two max_three min_three max_four min_four   -- for this text's walks alone
set_option linter.unusedVariables false
set_option linter.unusedSimpArgs false

/-! ### impl_heights: function 36 -/
def impl_heights.l0 : Nat → ByteArray → List Int → Int → Int → Option (List Int)
  | 0, _, _, _, _ => none
  | k + 1, x0, x3, x7, x8 => if x8 < x7 then (if 0 ≤ x8 then (if x8 < (x3.length : Int) then (if x8 < (x0.size : Int) then ((impl_bit.f ((bt x0 x8) == 98)).bind fun t129 => (if x3.length < 17592186044416 then (impl_heights.l0 k x0 (x3 ++ [wrap64 ((rd x3 x8) + t129)]) x7 (wrap64 (x8 + 1))) else (none))) else (none)) else (none)) else (none)) else (some x3)
def impl_heights.f (k : Nat) (a0 : ByteArray) : Option (List Int) := impl_heights.l0 k a0 (([0] : List Int)) (a0.size : Int) 0
theorem impl_heights.mono_l : ∀ k, (∀ y0 y1 y2 y3, LeO (impl_heights.l0 k y0 y1 y2 y3) (impl_heights.l0 (k + 1) y0 y1 y2 y3))
  | 0 => fun _ _ _ _ r h => by simp [impl_heights.l0] at h
  | k + 1 => by
   have ih0 := impl_heights.mono_l k
   intros
   unfold impl_heights.l0
   all_goals repeat' first | (with_reducible first | apply ih0 | exact LeO.refl _ | exact LeO.none _ | refine LeO.ite ?_ ?_ | refine LeO.bind ?_ (fun _ => ?_)) | apply ih0 | exact LeO.none _ | refine LeO.ite ?_ ?_ | refine LeO.bind ?_ (fun _ => ?_)
theorem impl_heights.mono : ∀ a0 k, LeO (impl_heights.f k a0) (impl_heights.f (k + 1) a0) := by
  intro a0 k
  have ih0 := impl_heights.mono_l k
  unfold impl_heights.f
  repeat' first | (with_reducible first | apply ih0 | exact LeO.refl _ | exact LeO.none _ | refine LeO.ite ?_ ?_ | refine LeO.bind ?_ (fun _ => ?_)) | apply ih0 | exact LeO.none _ | refine LeO.ite ?_ ?_ | refine LeO.bind ?_ (fun _ => ?_)
def impl_heights.T5 : Bool × List (List Nat × List Nat) := (true, [([], []), ([], []), ([], []), ([1, 2], [1, 2]), ([3], [3]), ([], []), ([], []), ([5, 6], [5, 6]), ([7], [7]), ([8], [8]), ([4, 9], [4, 9]), ([10], [10]), ([0, 11, 9], [0, 11]), ([12, 12, 0, 1, 2, 3, 4, 5, 6, 7, 8, 9, 10, 11, 12], [0, 1, 12])])
def impl_heights.B5 : List Nat := [0, 0, 0, 6, 14, 0, 0, 96, 224, 480, 1022, 2046, 4095, 8191]
theorem impl_heights.tab5 : rtab .any (opsOf Tryd.f36 5) = impl_heights.T5 := by kernel_rfl
theorem impl_heights.bits5 : waitsOk impl_heights.T5.2 impl_heights.B5 = true := by kernel_rfl
set_option maxHeartbeats 8000000 in
set_option maxRecDepth 100000 in
theorem impl_heights.calls (k : Nat) (a0 : ByteArray) (r : List Int) (w : World) (h : impl_heights.f k a0 = some r) :
    Calls Tryd.prog 36 #[.string a0] w fun e w' => ∃ v0_ : Value, e = .returned (v0_) ∧ Kd.R (Kd.int .i64) 2 w' w.heap.size (fun _ => True) v0_ r ∧ Below w.heap.size w w' := by
 have HB := mA (Below.refl w.heap.size w); have H : (impl_heights.l0 k a0 (([0] : List Int)) (a0.size : Int) 0) = some r := h; clear h; obtain ⟨y125, hy125⟩ : ∃ y_ : List Int, y_ = (([0] : List Int)) := ⟨_, rfl⟩
 replace H : (impl_heights.l0 k a0 y125 (a0.size : Int) 0) = some r := by first | (rw [hy125]; with_reducible exact H) | (have H2_ := (Option.bind_some _ _).symm.trans H; rw [hy125]; with_reducible exact H2_) | (have H2_ := (Option.bind_some _ _).symm.trans H; with_reducible exact H2_) | with_reducible exact H | (rw [hy125]; exact H) | exact H
 have Ny125 := mA hy125; clear hy125; have H' := mA H; clear H; go_enter Tryd.func36, Tryd.ntmps36; go_wp2_with (first | ((with_reducible refine gate_dst (N := 5) rfl ?_); refine Kd.R_lit (Kd.int .i64) _ 2 ?hg (N := 5) ?hd (xs := ([0] : List Int)) (inner := [.int .i64 0]) (ok := fun _ => True) (okp := fun _ => True) ?hr ?hp (fun _ hk => hk) trivial (Below.refl _ _) (Nat.le_refl _) (by simp) ?_; (case hd => rfl); (case hg => rfl); (case hr => first | (go_simp; done) | (go_simp; rfl)); (case hp => exact (Reps.one (show Kd.M (Kd.int .i64) _ _ _ 0 [.int .i64 0] from rfl) (Reps.none _ _))); intro v126 w2 ho3 hb hg_ hnew_; clear hg_ hnew_; (first | rw [← Ny125.out] at ho3 | (simp only [Int.reduceToNat] at ho3; rw [← Ny125.out] at ho3)); have HO127 := mA (Kd.R_lower ho3 (below_size z1)); replace HB := mA (below_step z1 hb); clear hb ho3)); go_loopg [3, 8] k (fun kq v3 v8 w' => ∃ (x3_1 : List Int) (x8_1 : Int), v8 = .int .i64 x8_1 ∧ Aside0 (impl_heights.l0 kq a0 x3_1 (a0.size : Int) x8_1 = some r) ∧ Aside0 (kq ≤ k) ∧ Aside0 (Kd.R (Kd.int .i64) 2 w' w.heap.size (fun _ => True) v3 x3_1) ∧ Aside0 (Below w.heap.size w w'))
 case atStart => exact ⟨(y125), (0), z2, H', ⟨Nat.le_refl _⟩, ⟨z7 HO127⟩, ⟨z1⟩⟩
 case round =>
  clear H'; (try clear p2); (try clear c3); obtain ⟨x3_1, x8_1, rfl, HA, HK1, HO_3, HB⟩ := hrel
  cases gk with
  | zero => exact absurd HA.out (by simp [impl_heights.l0])
  | succ k1 =>
   have H := HA.out; clear HA; simp only [impl_heights.l0] at H; refine sqC (x8_1 < (a0.size : Int)) (fun c4 => ?_) (fun c4 => ?_)
   ·rw [if_neg c4] at H; replace c4 := decide_eq_false c4; obtain rfl := Option.some.inj H; go_wp2; go_ret; exact ⟨_, z8, z7 HO_3, z1⟩
   rw [if_pos c4] at H; replace c4 := decide_eq_true c4; obtain ⟨c5, H⟩ := sqI H; replace c5 := decide_eq_true c5; obtain ⟨c6, H⟩ := sqI H; replace c6 := decide_eq_true c6; obtain ⟨c7, H⟩ := sqI H; replace c7 := decide_eq_true c7; obtain ⟨t129, A9, H⟩ := sqB H; obtain ⟨c10, H⟩ := sqI H; have LMc10 := mA c10; clear c10; obtain ⟨y130, hy130⟩ : ∃ y_ : List Int, y_ = (x3_1 ++ [wrap64 ((rd x3_1 x8_1) + t129)]) := ⟨_, rfl⟩
   replace H : (impl_heights.l0 k1 a0 y130 (a0.size : Int) (wrap64 (x8_1 + 1))) = some r := by first | (rw [hy130]; with_reducible exact H) | (have H2_ := (Option.bind_some _ _).symm.trans H; rw [hy130]; with_reducible exact H2_) | (have H2_ := (Option.bind_some _ _).symm.trans H; with_reducible exact H2_) | with_reducible exact H | (rw [hy130]; exact H) | exact H
   have Ny130 := mA hy130; clear hy130; have H' := mA H; clear H; (try go_wp2); replace HO_3 := mA (Kd.R_drew HO_3.out); replace HB := mA (below_drew1 HB.out); obtain ⟨Ao12, co12, eo12⟩ := Kd.R_slice HO_3.out; (first | subst eo12 | (injection eo12 with f1_ f2_ f3_; have f4_ := f1_.symm; have f5_ := f3_.symm; clear f1_ f2_ f3_; subst f4_; subst f5_)); have p128 : 0 ≤ (x8_1 : Int) := sqd; have q128 : x8_1 < (x3_1.length : Int) := sqd; obtain ⟨ad128, e128, hx128_0⟩ := Kd.at_int (Kd.R_reads' HO_3.out).2.2 x8_1 p128 q128
   cases e128
   replace p128 := eq_true p128; replace q128 := eq_true q128; have p8 : 0 ≤ (x8_1 : Int) := sqd; have q8 : x8_1 < (a0.size : Int) := sqd; have hx8 := bt_at a0 x8_1; replace p8 := eq_true p8; replace q8 := eq_true q8; refine start_ (n := 14) (S := fun w' => w'.cell? (ad128.add (x8_1).toNat) = some (.int .i64 (rd x3_1 x8_1))) (ds := [11, 12]) #[false, false, false, false, false, false, false, false, false, false, false, false, false, false] (by kernel_rfl) rfl rfl (hx128_0) (fun hHeld => ?_); refine with_tabW impl_heights.tab5 impl_heights.bits5 (fun HT_ HW_ => ?_); generalize wr.drew = w11 at HO_3 HB hx128_0 hHeld ⊢; refine sqr3 0 (some 11) ?_; refine sqr3 1 (some 12) ?_; refine sqr3 2 (some 13) ?_; refine sqr3 3 (some 14) ?_; refine sqr3 5 (some 16) ?_; refine sqr3 6 (some 17) ?_; refine sqr4 4 (some 15) ?_; refine sqr4 7 (some 18) ?_; refine sqr3 8 (some 19) ?_; refine sqr5 9 (some 20) (fun K hK => ?_); refine goes_ Tryd.func60 (by kernel_rfl) rfl #[.bool ((bt a0 x8_1) == 98)] (by rfl) rfl rfl (by (try simp only [List.map_toArray, List.map_cons, List.map_nil]); first | done | rfl | (simp only [List.length_drop, List.length_take]; rfl)) ?_; (with_reducible refine (impl_bit.calls ((bt a0 x8_1) == 98) t129 _ A9.out).mono ?_); rintro e w' ⟨rfl, ⟨nd, rfl⟩⟩; refine ⟨_, rfl, ?_⟩; refine hK.out _ _ (hHeld) (fun hHeld => ?_); clear hK K; refine sqr6 ?_; refine sqr3 10 (some 21) ?_; refine last_ (i := 11) (N := some 22) #[true, true, true, true, true, true, true, true, true, true, true, true, false, false] rfl rfl (one_of HT_.out (by kernel_rfl)) (by decide) (fun K hK => ?_); refine value_ (w1 := ?_) (v := ?_) (by rfl) rfl ?_ ?_; rotate_left 2
   ·go_simp; constructor
    ·rfl
    ·rfl
   refine hK.out _ _ ?_; clear hK K; refine sqr6 ?_; refine last_ (i := 12) (N := some 23) #[true, true, true, true, true, true, true, true, true, true, true, true, true, false] rfl rfl (one_of HT_.out (by kernel_rfl)) (by decide) (fun K hK => ?_); refine Kd.R_append_step (Kd.int .i64) (w0 := w) w.heap.size (by rfl) (.tmp 11) (.tmp 22) 25 2 (.int .i64 0) 8 rfl Tryd.underlying25 info2 rfl (by decide) (by omega) (.slice (some ad128) x3_1.length co12) x3_1 (wrap64 ((rd x3_1 x8_1) + t129)) [.int .i64 (wrap64 ((rd x3_1 x8_1) + t129))] (fun _ => True) (fun _ => False) rfl rfl ?aP (fun _ hk => hk.elim) ?aF ?aO ?aB ?aS ?aL ?_; (case aP => exact rfl); (case aB => exact z1); (case aF => exact (fun _ _ => trivial)); (case aO => exact (z7 HO_3)); (case aS => exact (below_size z1)); (case aL => have := LMc10.out; omega); intro v131 w13 ho hb hg hat; rw [← Ny130.out] at ho; replace HB := mA (hb); have HO132 := mA (ho); clear HO_3 ho hb hg hat; refine hK.out _ _ ?_; clear hK K; refine sqr6 ?_; refine sqr3 13 (some 3) ?_; refine done_ (done_of HT_.out (by kernel_rfl)) ?_; (try go_wp2); go_roundg k1
   case measure => have := HK1.out; omega
   case rel => exact ⟨(y130), (wrap64 (x8_1 + 1)), z2, H', ⟨by have := HK1.out; omega⟩, ⟨z7 HO132⟩, ⟨z1⟩⟩

/-! ### impl_compare: function 61 -/
def impl_compare.f (a0 : Int) (a1 : Int) : Option (Int) := if a0 < a1 then (some (-1)) else (if a0 > a1 then (some 1) else (some 0))
set_option maxHeartbeats 8000000 in
set_option maxRecDepth 100000 in
theorem impl_compare.calls (a0 : Int) (a1 : Int) (r : Int) (w : World) (h : impl_compare.f a0 a1 = some r) :
    Calls Tryd.prog 61 #[.int .i64 a0, .int .i64 a1] w fun e w' => e = .returned (.int .i64 r) ∧ Drawn0 w w' := by
 have H : (if a0 < a1 then (some (-1)) else (if a0 > a1 then (some 1) else (some 0))) = some r := h; clear h; by_cases c3 : a0 < a1
 ·rw [if_pos c3] at H; replace c3 := decide_eq_true c3; obtain rfl := Option.some.inj H; go_enter Tryd.func61, Tryd.ntmps61; go_wp2; go_ret; exact ⟨z2, z5⟩
 rw [if_neg c3] at H; replace c3 := decide_eq_false c3; by_cases c4 : a0 > a1
 ·rw [if_pos c4] at H; replace c4 := decide_eq_true c4; obtain rfl := Option.some.inj H; go_enter Tryd.func61, Tryd.ntmps61; go_wp2; go_ret; exact ⟨z2, z5⟩
 rw [if_neg c4] at H; replace c4 := decide_eq_false c4; obtain rfl := Option.some.inj H; go_enter Tryd.func61, Tryd.ntmps61; go_wp2; go_ret; exact ⟨z2, z5⟩

/-! ### impl_worth_against: function 42 -/
def impl_worth_against.j0 : Nat → Bool → Int → Int → Int → Int → Option (Int)
  | 0, _, _, _, _, _ => none
  | k + 1, x5, x134000, x134001, x135000, x135001 => if x5 = true then ((impl_compare.f x134000 x135000).bind fun t135 => (some t135)) else (if x134001 = 0 then (some 1) else (if x135001 = 0 then (some (-1)) else ((impl_compare.f (wrap64 (x134000 * x135001)) (wrap64 (x135000 * x134001))).bind fun t136 => (some t136))))
def impl_worth_against.f (k : Nat) (a0_0 : Int) (a0_1 : Int) (a1_0 : Int) (a1_1 : Int) : Option (Int) := if a0_1 = 0 then (impl_worth_against.j0 k (a1_1 == 0) a0_0 a0_1 a1_0 a1_1) else (impl_worth_against.j0 k false a0_0 a0_1 a1_0 a1_1)
theorem impl_worth_against.mono_l : ∀ k, (∀ y0 y1 y2 y3 y4, LeO (impl_worth_against.j0 k y0 y1 y2 y3 y4) (impl_worth_against.j0 (k + 1) y0 y1 y2 y3 y4))
  | 0 => fun _ _ _ _ _ r h => by simp [impl_worth_against.j0] at h
  | k + 1 => by
   have ih0 := impl_worth_against.mono_l k
   intros
   unfold impl_worth_against.j0
   all_goals repeat' first | (with_reducible first | apply ih0 | exact LeO.refl _ | exact LeO.none _ | refine LeO.ite ?_ ?_ | refine LeO.bind ?_ (fun _ => ?_)) | apply ih0 | exact LeO.none _ | refine LeO.ite ?_ ?_ | refine LeO.bind ?_ (fun _ => ?_)
theorem impl_worth_against.mono : ∀ a0 a1 a2 a3 k, LeO (impl_worth_against.f k a0 a1 a2 a3) (impl_worth_against.f (k + 1) a0 a1 a2 a3) := by
  intro a0 a1 a2 a3 k
  have ih0 := impl_worth_against.mono_l k
  unfold impl_worth_against.f
  repeat' first | (with_reducible first | apply ih0 | exact LeO.refl _ | exact LeO.none _ | refine LeO.ite ?_ ?_ | refine LeO.bind ?_ (fun _ => ?_)) | apply ih0 | exact LeO.none _ | refine LeO.ite ?_ ?_ | refine LeO.bind ?_ (fun _ => ?_)
set_option maxHeartbeats 8000000 in
set_option maxRecDepth 100000 in
theorem impl_worth_against.calls (k : Nat) (a0_0 : Int) (a0_1 : Int) (a1_0 : Int) (a1_1 : Int) (r : Int) (w : World) (h : impl_worth_against.f k a0_0 a0_1 a1_0 a1_1 = some r) :
    Calls Tryd.prog 42 #[.agg #[.int .i64 a0_0, .int .i64 a0_1], .agg #[.int .i64 a1_0, .int .i64 a1_1]] w fun e w' => e = .returned (.int .i64 r) ∧ Below w.heap.size w w' := by
 have hu49 := Tryd.underlying49; have HB := mA (Below.refl w.heap.size w); have H : (if a0_1 = 0 then (impl_worth_against.j0 k (a1_1 == 0) a0_0 a0_1 a1_0 a1_1) else (impl_worth_against.j0 k false a0_0 a0_1 a1_0 a1_1)) = some r := h; clear h; have HC3 := mA H; clear H; go_enter Tryd.func42, Tryd.ntmps42
 go_upto_region 1 with (first | (refine sqX 2 #[.int .i64 a0_0, .int .i64 a0_1] 49 ?_; intro gb133 hg w4 hbox hb; have BK133 := mA (hbox); have GW133 := mA ((z9 : w.heap.size ≤ gb133)); have GE133 := mA ((z9 : w.heap.size ≤ gb133)); replace HB := mA (below_step z1 hb); clear hb hbox hg) | (refine sqX 3 #[.int .i64 a1_0, .int .i64 a1_1] 49 ?_; intro gb134 hg w5 hbox hb; have BK134 := mA (hbox); have GW134 := mA ((z6 : w.heap.size ≤ gb134)); have GE134 := mA ((z6 : w.heap.size ≤ gb134)); replace HB := mA (below_step z3 hb); have NB133_134 := mA ((by rw [hg]; exact Nat.ne_of_lt (blk_lt (g := gb133) (o := .cells #[.int .i64 a0_0, .int .i64 a0_1] 49 (0, 0)) (z0 BK133)) : gb133 ≠ gb134)); have NB134_133 := mA ((by rw [hg]; exact Nat.ne_of_gt (blk_lt (g := gb133) (o := .cells #[.int .i64 a0_0, .int .i64 a0_1] 49 (0, 0)) (z0 BK133)) : gb134 ≠ gb133)); replace BK133 := mA (blk_below (g := gb133) (o := .cells #[.int .i64 a0_0, .int .i64 a0_1] 49 (0, 0)) (z0 BK133) hb); clear hb hbox hg))
 (try simp only [Act.put, List.setIfInBounds_toArray, List.set_cons_zero, List.set_cons_succ]); go_cut [5] (fun v5 wc => ∃ (kq : Nat) (x5_2 : Bool), v5 = .bool x5_2 ∧ Aside0 (impl_worth_against.j0 kq x5_2 a0_0 a0_1 a1_0 a1_1 = some r) ∧ Aside0 (kq ≤ k) ∧ Aside0 (wc.heap[gb133]? = some (.cells #[.int .i64 a0_0, .int .i64 a0_1] 49 (0, 0))) ∧ Aside0 (wc.heap[gb134]? = some (.cells #[.int .i64 a1_0, .int .i64 a1_1] 49 (0, 0))) ∧ Aside0 (Below w.heap.size w wc))
 case first =>
  have H := HC3.out; clear HC3; refine sqC (a0_1 = 0) (fun c6 => ?_) (fun c6 => ?_)
  ·rw [if_neg c6] at H; have c6b0 : (a0_1 == 0) = false := beq_eq_false_iff_ne.mpr c6; have c6b1 : (a0_1 != 0) = true := bne_iff_ne.mpr c6; (first | rw [c6b0] | (simp only [i64_w, i32_w]; rw [c6b0]) | skip); have H' := mA H; clear H; have hnb10 := NB133_134.out; have hnc10 := NB134_133.out; have hcz11_0 := sqZ0 BK133; have hcz11_1 := sqZ1 BK133; have hfz11_0 := blk_frozen BK133.out 0; have hfz11_1 := blk_frozen BK133.out 1; go_wp2; go_meet
   case rel => exact ⟨_, (false), z2, H', ⟨z13⟩, ⟨z0 BK133⟩, ⟨z0 BK134⟩, ⟨z3⟩⟩
  rw [if_pos c6] at H; have c6b0 : (a0_1 == 0) = true := beq_iff_eq.mpr c6; have c6b1 : (a0_1 != 0) = false := bne_eq_false_iff_eq.mpr c6; clear c6; (first | rw [c6b0] | (simp only [i64_w, i32_w]; rw [c6b0]) | skip); have H' := mA H; clear H; have hnb7 := NB133_134.out; have hnc7 := NB134_133.out; have hcz8_0 := sqZ0 BK133; have hcz8_1 := sqZ1 BK133; have hfz8_0 := blk_frozen BK133.out 0; have hfz8_1 := blk_frozen BK133.out 1; have hcz9_0 := sqZ0 BK134; have hcz9_1 := sqZ1 BK134; have hfz9_0 := blk_frozen BK134.out 0; have hfz9_1 := blk_frozen BK134.out 1; go_wp2; go_meet
  case rel => exact ⟨_, ((a1_1 == 0)), z2, H', ⟨z13⟩, ⟨z0 BK133⟩, ⟨z0 BK134⟩, ⟨z3⟩⟩
 case rest =>
  clear HC3; (try clear c1); (try clear p2); (try clear c4); (try clear c6); (try clear c6b0); (try clear c6b1); (try clear c7); (try clear c10); (try clear hcz11_0); (try clear hcz11_1); (try clear hcz8_0); (try clear hcz8_1); (try clear hcz9_0); (try clear hcz9_1); (try clear hfz11_0); (try clear hfz11_1); (try clear hfz8_0); (try clear hfz8_1); (try clear hfz9_0); (try clear hfz9_1); obtain ⟨kq, x5_2, rfl, HA, HJ2, BK133, BK134, HB⟩ := hcut
  cases kq with
  | zero => exact absurd HA.out (by simp [impl_worth_against.j0])
  | succ kj2 =>
   have H := HA.out; clear HA; simp only [impl_worth_against.j0] at H; by_cases c12 : x5_2 = true
   ·subst c12; rw [if_pos rfl] at H; obtain ⟨t135, A13, H⟩ := sqB H; obtain rfl := Option.some.inj H; have hnb14 := NB133_134.out; have hnc14 := NB134_133.out; have hcz15_0 := sqZ0 BK133; have hcz15_1 := sqZ1 BK133; have hfz15_0 := blk_frozen BK133.out 0; have hfz15_1 := blk_frozen BK133.out 1; have hcz16_0 := sqZ0 BK134; have hcz16_1 := sqZ1 BK134; have hfz16_0 := blk_frozen BK134.out 0; have hfz16_1 := blk_frozen BK134.out 1; go_wp2_with (first | (refine sqG 61 (some 18) Tryd.func61 #[.int .i64 a0_0, .int .i64 a1_0] (h := ?_); (with_reducible refine (impl_compare.calls a0_0 a1_0 t135 _ A13.out).mono ?_); rintro e w' ⟨rfl, ⟨nd, rfl⟩⟩; refine ⟨_, rfl, ?_⟩)); go_ret; exact ⟨z8, z3⟩
   replace c12 := Bool.eq_false_iff.mpr c12; subst c12; rw [if_neg (show ¬ (false = true) by decide)] at H; by_cases c17 : a0_1 = 0
   ·rw [if_pos c17] at H; have c17b0 : (a0_1 == 0) = true := beq_iff_eq.mpr c17; have c17b1 : (a0_1 != 0) = false := bne_eq_false_iff_eq.mpr c17; clear c17; obtain rfl := Option.some.inj H; have hnb18 := NB133_134.out; have hnc18 := NB134_133.out; have hcz19_0 := sqZ0 BK133; have hcz19_1 := sqZ1 BK133; have hfz19_0 := blk_frozen BK133.out 0; have hfz19_1 := blk_frozen BK133.out 1; go_wp2; go_ret; exact ⟨z8, z3⟩
   rw [if_neg c17] at H; have c17b0 : (a0_1 == 0) = false := beq_eq_false_iff_ne.mpr c17; have c17b1 : (a0_1 != 0) = true := bne_iff_ne.mpr c17; by_cases c20 : a1_1 = 0
   ·rw [if_pos c20] at H; have c20b0 : (a1_1 == 0) = true := beq_iff_eq.mpr c20; have c20b1 : (a1_1 != 0) = false := bne_eq_false_iff_eq.mpr c20; clear c20; obtain rfl := Option.some.inj H; have hnb21 := NB133_134.out; have hnc21 := NB134_133.out; have hcz22_0 := sqZ0 BK133; have hcz22_1 := sqZ1 BK133; have hfz22_0 := blk_frozen BK133.out 0; have hfz22_1 := blk_frozen BK133.out 1; have hcz23_0 := sqZ0 BK134; have hcz23_1 := sqZ1 BK134; have hfz23_0 := blk_frozen BK134.out 0; have hfz23_1 := blk_frozen BK134.out 1; go_wp2; go_ret; exact ⟨z8, z3⟩
   rw [if_neg c20] at H; have c20b0 : (a1_1 == 0) = false := beq_eq_false_iff_ne.mpr c20; have c20b1 : (a1_1 != 0) = true := bne_iff_ne.mpr c20; obtain ⟨t136, A24, H⟩ := sqB H; obtain rfl := Option.some.inj H; have hnb25 := NB133_134.out; have hnc25 := NB134_133.out; have hcz26_0 := sqZ0 BK133; have hcz26_1 := sqZ1 BK133; have hfz26_0 := blk_frozen BK133.out 0; have hfz26_1 := blk_frozen BK133.out 1; have hcz27_0 := sqZ0 BK134; have hcz27_1 := sqZ1 BK134; have hfz27_0 := blk_frozen BK134.out 0; have hfz27_1 := blk_frozen BK134.out 1; go_wp2_with (first | (refine sqG 61 (some 37) Tryd.func61 #[.int .i64 (wrap64 (a0_0 * a1_1)), .int .i64 (wrap64 (a1_0 * a0_1))] (h := ?_); (with_reducible refine (impl_compare.calls (wrap64 (a0_0 * a1_1)) (wrap64 (a1_0 * a0_1)) t136 _ A24.out).mono ?_); rintro e w' ⟨rfl, ⟨nd, rfl⟩⟩; refine ⟨_, rfl, ?_⟩)); go_ret; exact ⟨z8, z3⟩

end Go.Proofs.YtkmghekffehimaaDoor.PFnExactSlopesOf
