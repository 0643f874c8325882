/- Written by this session's program (wip/tool/xprint.py) over the kit's printer. -/
import Derived.Test.YtkmghekffehimaaDoorPFnExactSlopesOfx0
namespace Go.Proofs.YtkmghekffehimaaDoor.PFnExactSlopesOf
open Go.RowKit Go.Proofs.YtkmghekffehimaaDoorW.PrintWords Go.Proofs.YtkmghekffehimaaDoorW.PrintLast Go.Proofs.YtkmghekffehimaaDoorW.PrintMore
attribute [local go_sem] max2_int min2_int max_two min_two max_three min_three max_four min_four   -- for this text's walks alone
set_option linter.unusedVariables false
set_option linter.unusedSimpArgs false

/-! ### spec_l07Is: function 32 -/
def spec_l07Is.l0 : Nat → ByteArray → Int → Option (Bool)
  | 0, _, _ => none
  | k + 1, x0, x3 => if x3 < (x0.size : Int) then (if 0 ≤ x3 then (if (bt x0 x3) = 97 then (spec_l07Is.l0 k x0 (wrap64 (x3 + 1))) else (if (bt x0 x3) = 98 then (spec_l07Is.l0 k x0 (wrap64 (x3 + 1))) else (some false))) else (none)) else (some (decide ((x0.size : Int) ≤ 120)))
def spec_l07Is.f (k : Nat) (a0 : ByteArray) : Option (Bool) := spec_l07Is.l0 k a0 0
theorem spec_l07Is.mono_l : ∀ k, (∀ y0 y1, LeO (spec_l07Is.l0 k y0 y1) (spec_l07Is.l0 (k + 1) y0 y1))
  | 0 => fun _ _ r h => by simp [spec_l07Is.l0] at h
  | k + 1 => by
   have ih0 := spec_l07Is.mono_l k
   intros
   unfold spec_l07Is.l0
   all_goals repeat' first | (with_reducible first | apply ih0 | exact LeO.refl _ | exact LeO.none _ | refine LeO.ite ?_ ?_ | refine LeO.bind ?_ (fun _ => ?_)) | apply ih0 | exact LeO.none _ | refine LeO.ite ?_ ?_ | refine LeO.bind ?_ (fun _ => ?_)
theorem spec_l07Is.mono : ∀ a0 k, LeO (spec_l07Is.f k a0) (spec_l07Is.f (k + 1) a0) := by
  intro a0 k
  have ih0 := spec_l07Is.mono_l k
  unfold spec_l07Is.f
  repeat' first | (with_reducible first | apply ih0 | exact LeO.refl _ | exact LeO.none _ | refine LeO.ite ?_ ?_ | refine LeO.bind ?_ (fun _ => ?_)) | apply ih0 | exact LeO.none _ | refine LeO.ite ?_ ?_ | refine LeO.bind ?_ (fun _ => ?_)
set_option maxHeartbeats 8000000 in
set_option maxRecDepth 100000 in
theorem spec_l07Is.calls (k : Nat) (a0 : ByteArray) (r : Bool) (w : World) (h : spec_l07Is.f k a0 = some r) :
    Calls Tryd.prog 32 #[.string a0] w fun e w' => e = .returned (.bool r) ∧ Drawn0 w w' := by
 have H : (spec_l07Is.l0 k a0 0) = some r := h; clear h; have H' := mA H; clear H; go_enter Tryd.func32, Tryd.ntmps32; go_wp2; go_loopg [3] k (fun kq v3 w' => ∃ (x3_1 : Int), v3 = .int .i64 x3_1 ∧ Aside0 (spec_l07Is.l0 kq a0 x3_1 = some r) ∧ Aside0 (kq ≤ k) ∧ Drawn0 w w')
 case atStart => exact ⟨(0), z2, H', ⟨Nat.le_refl _⟩, z5⟩
 case round =>
  clear H'; obtain ⟨x3_1, rfl, HA, HK1, ⟨m1, rfl⟩⟩ := hrel
  cases gk with
  | zero => exact absurd HA.out (by simp [spec_l07Is.l0])
  | succ k1 =>
   have H := HA.out; clear HA; simp only [spec_l07Is.l0] at H; refine sqC (x3_1 < (a0.size : Int)) (fun c2 => ?_) (fun c2 => ?_)
   ·rw [if_neg c2] at H; replace c2 := decide_eq_false c2; obtain rfl := Option.some.inj H; go_wp2; go_ret; exact ⟨z2, z5⟩
   rw [if_pos c2] at H; replace c2 := decide_eq_true c2; obtain ⟨c3, H⟩ := sqI H; replace c3 := decide_eq_true c3; by_cases c5 : (bt a0 x3_1) = 97
   ·rw [if_pos c5] at H; have c5b0 : ((bt a0 x3_1) == 97) = true := beq_iff_eq.mpr c5; have c5b1 : ((bt a0 x3_1) != 97) = false := bne_eq_false_iff_eq.mpr c5; clear c5; have H' := mA H; clear H; have p4 : 0 ≤ (x3_1 : Int) := sqd; have q4 : x3_1 < (a0.size : Int) := sqd; have hx4 := bt_at a0 x3_1; replace p4 := eq_true p4; replace q4 := eq_true q4; go_wp2; go_roundg k1
    case measure => have := HK1.out; omega
    case rel => exact ⟨(wrap64 (x3_1 + 1)), z2, H', ⟨by have := HK1.out; omega⟩, z5⟩
   rw [if_neg c5] at H; have c5b0 : ((bt a0 x3_1) == 97) = false := beq_eq_false_iff_ne.mpr c5; have c5b1 : ((bt a0 x3_1) != 97) = true := bne_iff_ne.mpr c5; refine sqC ((bt a0 x3_1) = 98) (fun c7 => ?_) (fun c7 => ?_)
   ·rw [if_neg c7] at H; have c7b0 : ((bt a0 x3_1) == 98) = false := beq_eq_false_iff_ne.mpr c7; have c7b1 : ((bt a0 x3_1) != 98) = true := bne_iff_ne.mpr c7; obtain rfl := Option.some.inj H; have p4 : 0 ≤ (x3_1 : Int) := sqd; have q4 : x3_1 < (a0.size : Int) := sqd; have hx4 := bt_at a0 x3_1; replace p4 := eq_true p4; replace q4 := eq_true q4; have p6 : 0 ≤ (x3_1 : Int) := sqd; have q6 : x3_1 < (a0.size : Int) := sqd; have hx6 := bt_at a0 x3_1; replace p6 := eq_true p6; replace q6 := eq_true q6; go_wp2; go_ret; exact ⟨z2, z5⟩
   rw [if_pos c7] at H; have c7b0 : ((bt a0 x3_1) == 98) = true := beq_iff_eq.mpr c7; have c7b1 : ((bt a0 x3_1) != 98) = false := bne_eq_false_iff_eq.mpr c7; clear c7; have H' := mA H; clear H; have p4 : 0 ≤ (x3_1 : Int) := sqd; have q4 : x3_1 < (a0.size : Int) := sqd; have hx4 := bt_at a0 x3_1; replace p4 := eq_true p4; replace q4 := eq_true q4; have p6 : 0 ≤ (x3_1 : Int) := sqd; have q6 : x3_1 < (a0.size : Int) := sqd; have hx6 := bt_at a0 x3_1; replace p6 := eq_true p6; replace q6 := eq_true q6; go_wp2; go_roundg k1
   case measure => have := HK1.out; omega
   case rel => exact ⟨(wrap64 (x3_1 + 1)), z2, H', ⟨by have := HK1.out; omega⟩, z5⟩

/-! ### spec_l07Heights: function 35 -/
def spec_l07Heights.l0 : Nat → ByteArray → List Int → Int → Option (List Int)
  | 0, _, _, _ => none
  | k + 1, x0, x3, x4 => if x4 < (x0.size : Int) then (if 0 ≤ x4 then (if x4 < (x3.length : Int) then (if x3.length < 17592186044416 then (spec_l07Heights.l0 k x0 (x3 ++ [wrap64 ((rd x3 x4) + (((bt x0 x4) - 97) % 256))]) (wrap64 (x4 + 1))) else (none)) else (none)) else (none)) else (some x3)
def spec_l07Heights.f (k : Nat) (a0 : ByteArray) : Option (List Int) := spec_l07Heights.l0 k a0 (([0] : List Int)) 0
theorem spec_l07Heights.mono_l : ∀ k, (∀ y0 y1 y2, LeO (spec_l07Heights.l0 k y0 y1 y2) (spec_l07Heights.l0 (k + 1) y0 y1 y2))
  | 0 => fun _ _ _ r h => by simp [spec_l07Heights.l0] at h
  | k + 1 => by
   have ih0 := spec_l07Heights.mono_l k
   intros
   unfold spec_l07Heights.l0
   all_goals repeat' first | (with_reducible first | apply ih0 | exact LeO.refl _ | exact LeO.none _ | refine LeO.ite ?_ ?_ | refine LeO.bind ?_ (fun _ => ?_)) | apply ih0 | exact LeO.none _ | refine LeO.ite ?_ ?_ | refine LeO.bind ?_ (fun _ => ?_)
theorem spec_l07Heights.mono : ∀ a0 k, LeO (spec_l07Heights.f k a0) (spec_l07Heights.f (k + 1) a0) := by
  intro a0 k
  have ih0 := spec_l07Heights.mono_l k
  unfold spec_l07Heights.f
  repeat' first | (with_reducible first | apply ih0 | exact LeO.refl _ | exact LeO.none _ | refine LeO.ite ?_ ?_ | refine LeO.bind ?_ (fun _ => ?_)) | apply ih0 | exact LeO.none _ | refine LeO.ite ?_ ?_ | refine LeO.bind ?_ (fun _ => ?_)
def spec_l07Heights.T5 : Bool × List (List Nat × List Nat) := (true, [([], []), ([], []), ([], []), ([1, 2], [1, 2]), ([3], [3]), ([], []), ([], []), ([5, 6], [5, 6]), ([7], [7]), ([8], [8]), ([4, 9], [4, 9]), ([10], [10]), ([0, 11], [0, 11]), ([12, 12, 0, 1, 2, 3, 4, 5, 6, 7, 8, 9, 10, 11, 12], [0, 1, 12])])
def spec_l07Heights.B5 : List Nat := [0, 0, 0, 6, 14, 0, 0, 96, 224, 480, 1022, 2046, 4095, 8191]
theorem spec_l07Heights.tab5 : rtab .any (opsOf Tryd.f35 5) = spec_l07Heights.T5 := by kernel_rfl
theorem spec_l07Heights.bits5 : waitsOk spec_l07Heights.T5.2 spec_l07Heights.B5 = true := by kernel_rfl
set_option maxHeartbeats 8000000 in
set_option maxRecDepth 100000 in
theorem spec_l07Heights.calls (k : Nat) (a0 : ByteArray) (r : List Int) (w : World) (h : spec_l07Heights.f k a0 = some r) :
    Calls Tryd.prog 35 #[.string a0] w fun e w' => ∃ v0_ : Value, e = .returned (v0_) ∧ Kd.R (Kd.int .i64) 2 w' w.heap.size (fun _ => True) v0_ r ∧ Below w.heap.size w w' := by
 have HB := mA (Below.refl w.heap.size w); have H : (spec_l07Heights.l0 k a0 (([0] : List Int)) 0) = some r := h; clear h; obtain ⟨y101, hy101⟩ : ∃ y_ : List Int, y_ = (([0] : List Int)) := ⟨_, rfl⟩
 replace H : (spec_l07Heights.l0 k a0 y101 0) = some r := by first | (rw [hy101]; with_reducible exact H) | (have H2_ := (Option.bind_some _ _).symm.trans H; rw [hy101]; with_reducible exact H2_) | (have H2_ := (Option.bind_some _ _).symm.trans H; with_reducible exact H2_) | with_reducible exact H | (rw [hy101]; exact H) | exact H
 have Ny101 := mA hy101; clear hy101; have H' := mA H; clear H; go_enter Tryd.func35, Tryd.ntmps35; go_wp2_with (first | ((with_reducible refine gate_dst (N := 5) rfl ?_); refine Kd.R_lit (Kd.int .i64) _ 2 ?hg (N := 5) ?hd (xs := ([0] : List Int)) (inner := [.int .i64 0]) (ok := fun _ => True) (okp := fun _ => True) ?hr ?hp (fun _ hk => hk) trivial (Below.refl _ _) (Nat.le_refl _) (by simp) ?_; (case hd => rfl); (case hg => rfl); (case hr => first | (go_simp; done) | (go_simp; rfl)); (case hp => exact (Reps.one (show Kd.M (Kd.int .i64) _ _ _ 0 [.int .i64 0] from rfl) (Reps.none _ _))); intro v102 w2 ho3 hb hg_ hnew_; clear hg_ hnew_; (first | rw [← Ny101.out] at ho3 | (simp only [Int.reduceToNat] at ho3; rw [← Ny101.out] at ho3)); have HO103 := mA (Kd.R_lower ho3 (below_size z1)); replace HB := mA (below_step z1 hb); clear hb ho3)); go_loopg [3, 4] k (fun kq v3 v4 w' => ∃ (x3_1 : List Int) (x4_1 : Int), v4 = .int .i64 x4_1 ∧ Aside0 (spec_l07Heights.l0 kq a0 x3_1 x4_1 = some r) ∧ Aside0 (kq ≤ k) ∧ Aside0 (Kd.R (Kd.int .i64) 2 w' w.heap.size (fun _ => True) v3 x3_1) ∧ Aside0 (Below w.heap.size w w'))
 case atStart => exact ⟨(y101), (0), z2, H', ⟨Nat.le_refl _⟩, ⟨z7 HO103⟩, ⟨z1⟩⟩
 case round =>
  clear H'; (try clear p2); (try clear c3); obtain ⟨x3_1, x4_1, rfl, HA, HK1, HO_3, HB⟩ := hrel
  cases gk with
  | zero => exact absurd HA.out (by simp [spec_l07Heights.l0])
  | succ k1 =>
   have H := HA.out; clear HA; simp only [spec_l07Heights.l0] at H; refine sqC (x4_1 < (a0.size : Int)) (fun c4 => ?_) (fun c4 => ?_)
   ·rw [if_neg c4] at H; replace c4 := decide_eq_false c4; obtain rfl := Option.some.inj H; go_wp2; go_ret; exact ⟨_, z8, z7 HO_3, z1⟩
   rw [if_pos c4] at H; replace c4 := decide_eq_true c4; obtain ⟨c5, H⟩ := sqI H; replace c5 := decide_eq_true c5; obtain ⟨c6, H⟩ := sqI H; replace c6 := decide_eq_true c6; obtain ⟨c8, H⟩ := sqI H; have LMc8 := mA c8; clear c8; obtain ⟨y105, hy105⟩ : ∃ y_ : List Int, y_ = (x3_1 ++ [wrap64 ((rd x3_1 x4_1) + (((bt a0 x4_1) - 97) % 256))]) := ⟨_, rfl⟩
   replace H : (spec_l07Heights.l0 k1 a0 y105 (wrap64 (x4_1 + 1))) = some r := by first | (rw [hy105]; with_reducible exact H) | (have H2_ := (Option.bind_some _ _).symm.trans H; rw [hy105]; with_reducible exact H2_) | (have H2_ := (Option.bind_some _ _).symm.trans H; with_reducible exact H2_) | with_reducible exact H | (rw [hy105]; exact H) | exact H
   have Ny105 := mA hy105; clear hy105; have H' := mA H; clear H; (try go_wp2); replace HO_3 := mA (Kd.R_drew HO_3.out); replace HB := mA (below_drew1 HB.out); obtain ⟨Ao10, co10, eo10⟩ := Kd.R_slice HO_3.out; (first | subst eo10 | (injection eo10 with f1_ f2_ f3_; have f4_ := f1_.symm; have f5_ := f3_.symm; clear f1_ f2_ f3_; subst f4_; subst f5_)); have p104 : 0 ≤ (x4_1 : Int) := sqd; have q104 : x4_1 < (x3_1.length : Int) := sqd; obtain ⟨ad104, e104, hx104_0⟩ := Kd.at_int (Kd.R_reads' HO_3.out).2.2 x4_1 p104 q104
   cases e104
   replace p104 := eq_true p104; replace q104 := eq_true q104; have p7 : 0 ≤ (x4_1 : Int) := sqd; have q7 : x4_1 < (a0.size : Int) := sqd; have hx7 := bt_at a0 x4_1; replace p7 := eq_true p7; replace q7 := eq_true q7; refine start_ (n := 14) (S := fun w' => w'.cell? (ad104.add (x4_1).toNat) = some (.int .i64 (rd x3_1 x4_1))) (ds := [11, 12]) #[false, false, false, false, false, false, false, false, false, false, false, false, false, false] (by kernel_rfl) rfl rfl (hx104_0) (fun hHeld => ?_); refine with_tabW spec_l07Heights.tab5 spec_l07Heights.bits5 (fun HT_ HW_ => ?_); generalize wr.drew = w9 at HO_3 HB hx104_0 hHeld ⊢; refine sqr0 0 (some 12) ?_; refine sqr0 1 (some 13) ?_; refine sqr0 2 (some 14) ?_; refine sqr0 3 (some 15) ?_; refine sqr0 5 (some 17) ?_; refine sqr0 6 (some 18) ?_; refine sqr1 4 (some 16) ?_; refine sqr1 7 (some 19) ?_; refine sqr0 8 (some 20) ?_; refine sqr0 9 (some 21) ?_; refine sqr0 10 (some 22) ?_; refine last_ (i := 11) (N := some 23) #[true, true, true, true, true, true, true, true, true, true, true, true, false, false] rfl rfl (one_of HT_.out (by kernel_rfl)) (by decide) (fun K hK => ?_); refine value_ (w1 := ?_) (v := ?_) (by rfl) rfl ?_ ?_; rotate_left 2
   ·go_simp; constructor
    ·rfl
    ·rfl
   refine hK.out _ _ ?_; clear hK K; refine sqr2 ?_; refine last_ (i := 12) (N := some 24) #[true, true, true, true, true, true, true, true, true, true, true, true, true, false] rfl rfl (one_of HT_.out (by kernel_rfl)) (by decide) (fun K hK => ?_); refine Kd.R_append_step (Kd.int .i64) (w0 := w) w.heap.size (by rfl) (.tmp 12) (.tmp 23) 25 2 (.int .i64 0) 8 rfl Tryd.underlying25 info2 rfl (by decide) (by omega) (.slice (some ad104) x3_1.length co10) x3_1 (wrap64 ((rd x3_1 x4_1) + (((bt a0 x4_1) - 97) % 256))) [.int .i64 (wrap64 ((rd x3_1 x4_1) + (((bt a0 x4_1) - 97) % 256)))] (fun _ => True) (fun _ => False) rfl rfl ?aP (fun _ hk => hk.elim) ?aF ?aO ?aB ?aS ?aL ?_; (case aP => exact rfl); (case aB => exact z1); (case aF => exact (fun _ _ => trivial)); (case aO => exact (z7 HO_3)); (case aS => exact (below_size z1)); (case aL => have := LMc8.out; omega); intro v106 w11 ho hb hg hat; rw [← Ny105.out] at ho; replace HB := mA (hb); have HO107 := mA (ho); clear HO_3 ho hb hg hat; refine hK.out _ _ ?_; clear hK K; refine sqr2 ?_; refine sqr0 13 (some 3) ?_; refine done_ (done_of HT_.out (by kernel_rfl)) ?_; (try go_wp2); go_roundg k1
   case measure => have := HK1.out; omega
   case rel => exact ⟨(y105), (wrap64 (x4_1 + 1)), z2, H', ⟨by have := HK1.out; omega⟩, ⟨z7 HO107⟩, ⟨z1⟩⟩

/-! ### spec_l07Ends: function 38 -/
mutual
def spec_l07Ends.l0 : Nat → List Int → Int → Int → Int → Int → Int → Option (Int × Int × Int × Int)
  | 0, _, _, _, _, _, _ => none
  | k + 1, x6, x7, x8, x9, x10, x11 => if x11 < (x6.length : Int) then (spec_l07Ends.l1 k x6 x7 x8 x9 x10 x11 (wrap64 (x11 + 1))) else (some (x7, x8, x9, x10))
def spec_l07Ends.l1 : Nat → List Int → Int → Int → Int → Int → Int → Int → Option (Int × Int × Int × Int)
  | 0, _, _, _, _, _, _, _ => none
  | k + 1, x6, x7, x8, x9, x10, x11, x12 => if x12 < (x6.length : Int) then (if 0 ≤ x12 then (if 0 ≤ x11 then (if x11 < (x6.length : Int) then (if (wrap64 ((wrap64 ((wrap64 ((rd x6 x12) - (rd x6 x11))) - 1)) * x8)) > (wrap64 (x7 * (wrap64 (x12 - x11)))) then (if (wrap64 ((wrap64 ((wrap64 ((rd x6 x12) - (rd x6 x11))) + 1)) * x10)) < (wrap64 (x9 * (wrap64 (x12 - x11)))) then (spec_l07Ends.l1 k x6 (wrap64 ((wrap64 ((rd x6 x12) - (rd x6 x11))) - 1)) (wrap64 (x12 - x11)) (wrap64 ((wrap64 ((rd x6 x12) - (rd x6 x11))) + 1)) (wrap64 (x12 - x11)) x11 (wrap64 (x12 + 1))) else (spec_l07Ends.l1 k x6 (wrap64 ((wrap64 ((rd x6 x12) - (rd x6 x11))) - 1)) (wrap64 (x12 - x11)) x9 x10 x11 (wrap64 (x12 + 1)))) else (if (wrap64 ((wrap64 ((wrap64 ((rd x6 x12) - (rd x6 x11))) + 1)) * x10)) < (wrap64 (x9 * (wrap64 (x12 - x11)))) then (spec_l07Ends.l1 k x6 x7 x8 (wrap64 ((wrap64 ((rd x6 x12) - (rd x6 x11))) + 1)) (wrap64 (x12 - x11)) x11 (wrap64 (x12 + 1))) else (spec_l07Ends.l1 k x6 x7 x8 x9 x10 x11 (wrap64 (x12 + 1))))) else (none)) else (none)) else (none)) else (spec_l07Ends.l0 k x6 x7 x8 x9 x10 (wrap64 (x11 + 1)))
end
def spec_l07Ends.f (k : Nat) (a0 : ByteArray) : Option (Int × Int × Int × Int) := (spec_l07Heights.f k a0).bind fun t108 => (spec_l07Ends.l0 k t108 (-1) 1 2 1 0)
theorem spec_l07Ends.mono_l : ∀ k, (∀ y0 y1 y2 y3 y4 y5, LeO (spec_l07Ends.l0 k y0 y1 y2 y3 y4 y5) (spec_l07Ends.l0 (k + 1) y0 y1 y2 y3 y4 y5)) ∧ (∀ y0 y1 y2 y3 y4 y5 y6, LeO (spec_l07Ends.l1 k y0 y1 y2 y3 y4 y5 y6) (spec_l07Ends.l1 (k + 1) y0 y1 y2 y3 y4 y5 y6))
  | 0 => ⟨fun _ _ _ _ _ _ r h => by simp [spec_l07Ends.l0] at h, fun _ _ _ _ _ _ _ r h => by simp [spec_l07Ends.l1] at h⟩
  | k + 1 => by
   obtain ⟨ih0, ih1⟩ := spec_l07Ends.mono_l k
   refine ⟨?_, ?_⟩ <;> intros
   all_goals first | unfold spec_l07Ends.l0 | unfold spec_l07Ends.l1
   all_goals repeat' first | (with_reducible first | apply ih0 | apply ih1 | apply spec_l07Heights.mono | exact LeO.refl _ | exact LeO.none _ | refine LeO.ite ?_ ?_ | refine LeO.bind ?_ (fun _ => ?_)) | apply ih0 | apply ih1 | apply spec_l07Heights.mono | exact LeO.none _ | refine LeO.ite ?_ ?_ | refine LeO.bind ?_ (fun _ => ?_)
theorem spec_l07Ends.mono : ∀ a0 k, LeO (spec_l07Ends.f k a0) (spec_l07Ends.f (k + 1) a0) := by
  intro a0 k
  obtain ⟨ih0, ih1⟩ := spec_l07Ends.mono_l k
  unfold spec_l07Ends.f
  repeat' first | (with_reducible first | apply ih0 | apply ih1 | apply spec_l07Heights.mono | exact LeO.refl _ | exact LeO.none _ | refine LeO.ite ?_ ?_ | refine LeO.bind ?_ (fun _ => ?_)) | apply ih0 | apply ih1 | apply spec_l07Heights.mono | exact LeO.none _ | refine LeO.ite ?_ ?_ | refine LeO.bind ?_ (fun _ => ?_)
set_option maxHeartbeats 8000000 in
set_option maxRecDepth 100000 in
theorem spec_l07Ends.calls (k : Nat) (a0 : ByteArray) (r1 : Int) (r2 : Int) (r3 : Int) (r4 : Int) (w : World) (h : spec_l07Ends.f k a0 = some (r1, r2, r3, r4)) :
    Calls Tryd.prog 38 #[.string a0] w fun e w' => e = .returned (.tuple #[.int .i64 r1, .int .i64 r2, .int .i64 r3, .int .i64 r4]) ∧ Below w.heap.size w w' := by
 have HB := mA (Below.refl w.heap.size w); have H : ((spec_l07Heights.f k a0).bind fun t108 => (spec_l07Ends.l0 k t108 (-1) 1 2 1 0)) = some (r1, r2, r3, r4) := h; clear h; obtain ⟨t108, A2, H⟩ := sqB H; have H' := mA H; clear H; go_enter Tryd.func38, Tryd.ntmps38; go_wp2_with (first | (go_at_call 35; (with_reducible refine (spec_l07Heights.calls k a0 t108 _ A2.out).mono ?_); rintro e w3 ⟨v109, rfl, ho0, hb⟩; have HO110 := mA (Kd.R_lower ho0 (below_size z1)); replace HB := mA (below_step z1 hb); (try clear hb ho0)))
 repeat (go_quiet (first | (go_at_call 35; (with_reducible refine (spec_l07Heights.calls k a0 t108 _ A2.out).mono ?_); rintro e w3 ⟨v109, rfl, ho0, hb⟩; have HO110 := mA (Kd.R_lower ho0 (below_size z1)); replace HB := mA (below_step z1 hb); (try clear hb ho0))); try go_wp2_with (first | (go_at_call 35; (with_reducible refine (spec_l07Heights.calls k a0 t108 _ A2.out).mono ?_); rintro e w3 ⟨v109, rfl, ho0, hb⟩; have HO110 := mA (Kd.R_lower ho0 (below_size z1)); replace HB := mA (below_step z1 hb); (try clear hb ho0))))
 go_loopg [7, 8, 9, 10, 11] k (fun kq v7 v8 v9 v10 v11 w' => ∃ (x7_1 : Int) (x8_1 : Int) (x9_1 : Int) (x10_1 : Int) (x11_1 : Int), v7 = .int .i64 x7_1 ∧ v8 = .int .i64 x8_1 ∧ v9 = .int .i64 x9_1 ∧ v10 = .int .i64 x10_1 ∧ v11 = .int .i64 x11_1 ∧ Aside0 (spec_l07Ends.l0 kq t108 x7_1 x8_1 x9_1 x10_1 x11_1 = some (r1, r2, r3, r4)) ∧ Aside0 (kq ≤ k) ∧ Aside0 (Kd.R (Kd.int .i64) 2 w' w.heap.size (fun _ => True) v109 t108) ∧ Aside0 (Below w.heap.size w w'))
 case atStart => exact ⟨((-1)), (1), (2), (1), (0), z2, z2, z2, z2, z2, H', ⟨Nat.le_refl _⟩, ⟨z7 HO110⟩, ⟨z1⟩⟩
 case round =>
  clear H'; (try clear p2); (try clear c3); obtain ⟨x7_1, x8_1, x9_1, x10_1, x11_1, rfl, rfl, rfl, rfl, rfl, HA, HK1, HO_6, HB⟩ := hrel
  cases gk with
  | zero => exact absurd HA.out (by simp [spec_l07Ends.l0])
  | succ k1 =>
   have H := HA.out; clear HA; simp only [spec_l07Ends.l0] at H; refine sqC (x11_1 < (t108.length : Int)) (fun c4 => ?_) (fun c4 => ?_)
   ·rw [if_neg c4] at H; replace c4 := decide_eq_false c4; simp only [Option.some.injEq, Prod.mk.injEq] at H; obtain ⟨rfl, rfl, rfl, rfl⟩ := H; obtain ⟨Ao13, co13, eo13⟩ := Kd.R_slice HO_6.out; subst eo13; go_wp2
    repeat (go_quiet (fail); try go_wp2)
    refine bodyPost_ret (results_list (rs := [.tmp 2, .tmp 3, .tmp 4, .tmp 5]) rfl (by simp) (.tmp (.tmp (.tmp (.tmp .nil))))) rfl ?_; exact ⟨z8, z1⟩
   rw [if_pos c4] at H; replace c4 := decide_eq_true c4; have H' := mA H; clear H; obtain ⟨Ao5, co5, eo5⟩ := Kd.R_slice HO_6.out; subst eo5; go_wp2
   repeat (go_quiet (fail); try go_wp2)
   go_loopg [7, 8, 9, 10, 12] k1 (fun kq v7 v8 v9 v10 v12 w' => ∃ (x7_2 : Int) (x8_2 : Int) (x9_2 : Int) (x10_2 : Int) (x12_2 : Int), v7 = .int .i64 x7_2 ∧ v8 = .int .i64 x8_2 ∧ v9 = .int .i64 x9_2 ∧ v10 = .int .i64 x10_2 ∧ v12 = .int .i64 x12_2 ∧ Aside0 (spec_l07Ends.l1 kq t108 x7_2 x8_2 x9_2 x10_2 x11_1 x12_2 = some (r1, r2, r3, r4)) ∧ Aside0 (kq ≤ k1) ∧ Aside0 (Kd.R (Kd.int .i64) 2 w' w.heap.size (fun _ => True) (.slice Ao5 t108.length co5) t108) ∧ Aside0 (Below w.heap.size w w'))
   case atStart => exact ⟨(x7_1), (x8_1), (x9_1), (x10_1), (wrap64 (x11_1 + 1)), z2, z2, z2, z2, z2, H', ⟨Nat.le_refl _⟩, ⟨z7 HO_6⟩, ⟨z1⟩⟩
   case round =>
    clear H'; (try clear p2); (try clear c3); (try clear c4); (try clear c4b0); (try clear p2); obtain ⟨x7_2, x8_2, x9_2, x10_2, x12_2, rfl, rfl, rfl, rfl, rfl, HA, HK2, HO_6, HB⟩ := hrel
    cases gk with
    | zero => exact absurd HA.out (by simp [spec_l07Ends.l1])
    | succ k2 =>
     have H := HA.out; clear HA; simp only [spec_l07Ends.l1] at H; refine sqC (x12_2 < (t108.length : Int)) (fun c6 => ?_) (fun c6 => ?_)
     ·rw [if_neg c6] at H; replace c6 := decide_eq_false c6; have H' := mA H; clear H; go_wp2
      repeat (go_quiet (fail); try go_wp2)
      go_roundg k2
      case measure => have := HK1.out; have := HK2.out; omega
      case rel => exact ⟨(x7_2), (x8_2), (x9_2), (x10_2), (wrap64 (x11_1 + 1)), z2, z2, z2, z2, z2, H', ⟨z10 HK1 HK2⟩, ⟨z7 HO_6⟩, ⟨z1⟩⟩
     rw [if_pos c6] at H; replace c6 := decide_eq_true c6; obtain ⟨c7, H⟩ := sqI H; replace c7 := decide_eq_true c7; obtain ⟨c8, H⟩ := sqI H; replace c8 := decide_eq_true c8; obtain ⟨c9, H⟩ := sqI H; replace c9 := decide_eq_true c9; refine sqC ((wrap64 ((wrap64 ((wrap64 ((rd t108 x12_2) - (rd t108 x11_1))) - 1)) * x8_2)) > (wrap64 (x7_2 * (wrap64 (x12_2 - x11_1))))) (fun c10 => ?_) (fun c10 => ?_)
     ·rw [if_neg c10] at H; replace c10 := decide_eq_false c10; refine sqC ((wrap64 ((wrap64 ((wrap64 ((rd t108 x12_2) - (rd t108 x11_1))) + 1)) * x10_2)) < (wrap64 (x9_2 * (wrap64 (x12_2 - x11_1))))) (fun c12 => ?_) (fun c12 => ?_)
      ·rw [if_neg c12] at H; replace c12 := decide_eq_false c12; have H' := mA H; clear H; have p111 : 0 ≤ (x12_2 : Int) := sqd; have q111 : x12_2 < (t108.length : Int) := sqd; obtain ⟨ad111, e111, hx111_0⟩ := Kd.at_int (Kd.R_reads' HO_6.out).2.2 x12_2 p111 q111
       cases e111
       replace p111 := eq_true p111; replace q111 := eq_true q111; have p112 : 0 ≤ (x11_1 : Int) := sqd; have q112 : x11_1 < (t108.length : Int) := sqd; obtain ⟨ad112, e112, hx112_0⟩ := Kd.at_int (Kd.R_reads' HO_6.out).2.2 x11_1 p112 q112; obtain rfl : ad111 = ad112 := (by injection e112); replace p112 := eq_true p112; replace q112 := eq_true q112; have p113 : 0 ≤ (x12_2 : Int) := sqd; have q113 : x12_2 < (t108.length : Int) := sqd; obtain ⟨ad113, e113, hx113_0⟩ := Kd.at_int (Kd.R_reads' HO_6.out).2.2 x12_2 p113 q113; obtain rfl : ad111 = ad113 := (by injection e113); replace p113 := eq_true p113; replace q113 := eq_true q113; have p114 : 0 ≤ (x11_1 : Int) := sqd; have q114 : x11_1 < (t108.length : Int) := sqd; obtain ⟨ad114, e114, hx114_0⟩ := Kd.at_int (Kd.R_reads' HO_6.out).2.2 x11_1 p114 q114; obtain rfl : ad111 = ad114 := (by injection e114); replace p114 := eq_true p114; replace q114 := eq_true q114; go_wp2
       repeat (go_quiet (fail); try go_wp2)
       go_roundg k2
       case measure => have := HK1.out; have := HK2.out; omega
       case rel => exact ⟨(x7_2), (x8_2), (x9_2), (x10_2), (wrap64 (x12_2 + 1)), z2, z2, z2, z2, z2, H', ⟨z10 HK1 HK2⟩, ⟨z7 HO_6⟩, ⟨z1⟩⟩
      rw [if_pos c12] at H; replace c12 := decide_eq_true c12; have H' := mA H; clear H; have p111 : 0 ≤ (x12_2 : Int) := sqd; have q111 : x12_2 < (t108.length : Int) := sqd; obtain ⟨ad111, e111, hx111_0⟩ := Kd.at_int (Kd.R_reads' HO_6.out).2.2 x12_2 p111 q111
      cases e111
      replace p111 := eq_true p111; replace q111 := eq_true q111; have p112 : 0 ≤ (x11_1 : Int) := sqd; have q112 : x11_1 < (t108.length : Int) := sqd; obtain ⟨ad112, e112, hx112_0⟩ := Kd.at_int (Kd.R_reads' HO_6.out).2.2 x11_1 p112 q112; obtain rfl : ad111 = ad112 := (by injection e112); replace p112 := eq_true p112; replace q112 := eq_true q112; have p113 : 0 ≤ (x12_2 : Int) := sqd; have q113 : x12_2 < (t108.length : Int) := sqd; obtain ⟨ad113, e113, hx113_0⟩ := Kd.at_int (Kd.R_reads' HO_6.out).2.2 x12_2 p113 q113; obtain rfl : ad111 = ad113 := (by injection e113); replace p113 := eq_true p113; replace q113 := eq_true q113; have p114 : 0 ≤ (x11_1 : Int) := sqd; have q114 : x11_1 < (t108.length : Int) := sqd; obtain ⟨ad114, e114, hx114_0⟩ := Kd.at_int (Kd.R_reads' HO_6.out).2.2 x11_1 p114 q114; obtain rfl : ad111 = ad114 := (by injection e114); replace p114 := eq_true p114; replace q114 := eq_true q114; go_wp2
      repeat (go_quiet (fail); try go_wp2)
      go_roundg k2
      case measure => have := HK1.out; have := HK2.out; omega
      case rel => exact ⟨(x7_2), (x8_2), (wrap64 ((wrap64 ((rd t108 x12_2) - (rd t108 x11_1))) + 1)), (wrap64 (x12_2 - x11_1)), (wrap64 (x12_2 + 1)), z2, z2, z2, z2, z2, H', ⟨z10 HK1 HK2⟩, ⟨z7 HO_6⟩, ⟨z1⟩⟩
     rw [if_pos c10] at H; replace c10 := decide_eq_true c10; refine sqC ((wrap64 ((wrap64 ((wrap64 ((rd t108 x12_2) - (rd t108 x11_1))) + 1)) * x10_2)) < (wrap64 (x9_2 * (wrap64 (x12_2 - x11_1))))) (fun c11 => ?_) (fun c11 => ?_)
     ·rw [if_neg c11] at H; replace c11 := decide_eq_false c11; have H' := mA H; clear H; have p111 : 0 ≤ (x12_2 : Int) := sqd; have q111 : x12_2 < (t108.length : Int) := sqd; obtain ⟨ad111, e111, hx111_0⟩ := Kd.at_int (Kd.R_reads' HO_6.out).2.2 x12_2 p111 q111
      cases e111
      replace p111 := eq_true p111; replace q111 := eq_true q111; have p112 : 0 ≤ (x11_1 : Int) := sqd; have q112 : x11_1 < (t108.length : Int) := sqd; obtain ⟨ad112, e112, hx112_0⟩ := Kd.at_int (Kd.R_reads' HO_6.out).2.2 x11_1 p112 q112; obtain rfl : ad111 = ad112 := (by injection e112); replace p112 := eq_true p112; replace q112 := eq_true q112; have p113 : 0 ≤ (x12_2 : Int) := sqd; have q113 : x12_2 < (t108.length : Int) := sqd; obtain ⟨ad113, e113, hx113_0⟩ := Kd.at_int (Kd.R_reads' HO_6.out).2.2 x12_2 p113 q113; obtain rfl : ad111 = ad113 := (by injection e113); replace p113 := eq_true p113; replace q113 := eq_true q113; have p114 : 0 ≤ (x11_1 : Int) := sqd; have q114 : x11_1 < (t108.length : Int) := sqd; obtain ⟨ad114, e114, hx114_0⟩ := Kd.at_int (Kd.R_reads' HO_6.out).2.2 x11_1 p114 q114; obtain rfl : ad111 = ad114 := (by injection e114); replace p114 := eq_true p114; replace q114 := eq_true q114; go_wp2
      repeat (go_quiet (fail); try go_wp2)
      go_roundg k2
      case measure => have := HK1.out; have := HK2.out; omega
      case rel => exact ⟨(wrap64 ((wrap64 ((rd t108 x12_2) - (rd t108 x11_1))) - 1)), (wrap64 (x12_2 - x11_1)), (x9_2), (x10_2), (wrap64 (x12_2 + 1)), z2, z2, z2, z2, z2, H', ⟨z10 HK1 HK2⟩, ⟨z7 HO_6⟩, ⟨z1⟩⟩
     rw [if_pos c11] at H; replace c11 := decide_eq_true c11; have H' := mA H; clear H; have p111 : 0 ≤ (x12_2 : Int) := sqd; have q111 : x12_2 < (t108.length : Int) := sqd; obtain ⟨ad111, e111, hx111_0⟩ := Kd.at_int (Kd.R_reads' HO_6.out).2.2 x12_2 p111 q111
     cases e111
     replace p111 := eq_true p111; replace q111 := eq_true q111; have p112 : 0 ≤ (x11_1 : Int) := sqd; have q112 : x11_1 < (t108.length : Int) := sqd; obtain ⟨ad112, e112, hx112_0⟩ := Kd.at_int (Kd.R_reads' HO_6.out).2.2 x11_1 p112 q112; obtain rfl : ad111 = ad112 := (by injection e112); replace p112 := eq_true p112; replace q112 := eq_true q112; have p113 : 0 ≤ (x12_2 : Int) := sqd; have q113 : x12_2 < (t108.length : Int) := sqd; obtain ⟨ad113, e113, hx113_0⟩ := Kd.at_int (Kd.R_reads' HO_6.out).2.2 x12_2 p113 q113; obtain rfl : ad111 = ad113 := (by injection e113); replace p113 := eq_true p113; replace q113 := eq_true q113; have p114 : 0 ≤ (x11_1 : Int) := sqd; have q114 : x11_1 < (t108.length : Int) := sqd; obtain ⟨ad114, e114, hx114_0⟩ := Kd.at_int (Kd.R_reads' HO_6.out).2.2 x11_1 p114 q114; obtain rfl : ad111 = ad114 := (by injection e114); replace p114 := eq_true p114; replace q114 := eq_true q114; go_wp2
     repeat (go_quiet (fail); try go_wp2)
     go_roundg k2
     case measure => have := HK1.out; have := HK2.out; omega
     case rel => exact ⟨(wrap64 ((wrap64 ((rd t108 x12_2) - (rd t108 x11_1))) - 1)), (wrap64 (x12_2 - x11_1)), (wrap64 ((wrap64 ((rd t108 x12_2) - (rd t108 x11_1))) + 1)), (wrap64 (x12_2 - x11_1)), (wrap64 (x12_2 + 1)), z2, z2, z2, z2, z2, H', ⟨z10 HK1 HK2⟩, ⟨z7 HO_6⟩, ⟨z1⟩⟩

/-! ### spec_l07Gcd: function 39 -/
def spec_l07Gcd.l0 : Nat → Int → Int → Option (Int)
  | 0, _, _ => none
  | k + 1, x0, x1 => if x1 > 0 then (if x1 = 0 then (none) else (spec_l07Gcd.l0 k x1 (Int.tmod x0 x1))) else (some x0)
def spec_l07Gcd.f (k : Nat) (a0 : Int) (a1 : Int) : Option (Int) := spec_l07Gcd.l0 k a0 a1
theorem spec_l07Gcd.mono_l : ∀ k, (∀ y0 y1, LeO (spec_l07Gcd.l0 k y0 y1) (spec_l07Gcd.l0 (k + 1) y0 y1))
  | 0 => fun _ _ r h => by simp [spec_l07Gcd.l0] at h
  | k + 1 => by
   have ih0 := spec_l07Gcd.mono_l k
   intros
   unfold spec_l07Gcd.l0
   all_goals repeat' first | (with_reducible first | apply ih0 | exact LeO.refl _ | exact LeO.none _ | refine LeO.ite ?_ ?_ | refine LeO.bind ?_ (fun _ => ?_)) | apply ih0 | exact LeO.none _ | refine LeO.ite ?_ ?_ | refine LeO.bind ?_ (fun _ => ?_)
theorem spec_l07Gcd.mono : ∀ a0 a1 k, LeO (spec_l07Gcd.f k a0 a1) (spec_l07Gcd.f (k + 1) a0 a1) := by
  intro a0 a1 k
  have ih0 := spec_l07Gcd.mono_l k
  unfold spec_l07Gcd.f
  repeat' first | (with_reducible first | apply ih0 | exact LeO.refl _ | exact LeO.none _ | refine LeO.ite ?_ ?_ | refine LeO.bind ?_ (fun _ => ?_)) | apply ih0 | exact LeO.none _ | refine LeO.ite ?_ ?_ | refine LeO.bind ?_ (fun _ => ?_)
set_option maxHeartbeats 8000000 in
set_option maxRecDepth 100000 in
theorem spec_l07Gcd.calls (k : Nat) (a0 : Int) (a1 : Int) (r : Int) (w : World) (h : spec_l07Gcd.f k a0 a1 = some r) :
    Calls Tryd.prog 39 #[.int .i64 a0, .int .i64 a1] w fun e w' => e = .returned (.int .i64 r) ∧ Drawn0 w w' := by
 have H : (spec_l07Gcd.l0 k a0 a1) = some r := h; clear h; have H' := mA H; clear H; go_enter Tryd.func39, Tryd.ntmps39; go_wp2; go_loopg [0, 1] k (fun kq v0 v1 w' => ∃ (x0_1 : Int) (x1_1 : Int), v0 = .int .i64 x0_1 ∧ v1 = .int .i64 x1_1 ∧ Aside0 (spec_l07Gcd.l0 kq x0_1 x1_1 = some r) ∧ Aside0 (kq ≤ k) ∧ Drawn0 w w')
 case atStart => exact ⟨(a0), (a1), z2, z2, H', ⟨Nat.le_refl _⟩, z5⟩
 case round =>
  clear H'; (try clear p2); obtain ⟨x0_1, x1_1, rfl, rfl, HA, HK1, ⟨m1, rfl⟩⟩ := hrel
  cases gk with
  | zero => exact absurd HA.out (by simp [spec_l07Gcd.l0])
  | succ k1 =>
   have H := HA.out; clear HA; simp only [spec_l07Gcd.l0] at H; refine sqC (x1_1 > 0) (fun c3 => ?_) (fun c3 => ?_)
   ·rw [if_neg c3] at H; replace c3 := decide_eq_false c3; obtain rfl := Option.some.inj H; go_wp2; go_ret; exact ⟨z2, z5⟩
   rw [if_pos c3] at H; replace c3 := decide_eq_true c3; obtain ⟨c4, H⟩ := sqJ H; have c4b0 : (x1_1 == 0) = false := beq_eq_false_iff_ne.mpr c4; have c4b1 : (x1_1 != 0) = true := bne_iff_ne.mpr c4; have H' := mA H; clear H; go_wp2; go_roundg k1
   case measure => have := HK1.out; omega
   case rel => exact ⟨(x1_1), (Int.tmod x0_1 x1_1), z2, z2, H', ⟨by have := HK1.out; omega⟩, z5⟩

/-! ### spec_l00Max: function 40 -/
def spec_l00Max.f (a0 : Int) (a1 : Int) : Option (Int) := if a0 > a1 then (some a0) else (some a1)
set_option maxHeartbeats 8000000 in
set_option maxRecDepth 100000 in
theorem spec_l00Max.calls (a0 : Int) (a1 : Int) (r : Int) (w : World) (h : spec_l00Max.f a0 a1 = some r) :
    Calls Tryd.prog 40 #[.int .i64 a0, .int .i64 a1] w fun e w' => e = .returned (.int .i64 r) ∧ Drawn0 w w' := by
 have H : (if a0 > a1 then (some a0) else (some a1)) = some r := h; clear h; by_cases c3 : a0 > a1
 ·rw [if_pos c3] at H; replace c3 := decide_eq_true c3; obtain rfl := Option.some.inj H; go_enter Tryd.func40, Tryd.ntmps40; go_wp2; go_ret; exact ⟨z2, z5⟩
 rw [if_neg c3] at H; replace c3 := decide_eq_false c3; obtain rfl := Option.some.inj H; go_enter Tryd.func40, Tryd.ntmps40; go_wp2; go_ret; exact ⟨z2, z5⟩

end Go.Proofs.YtkmghekffehimaaDoor.PFnExactSlopesOf
