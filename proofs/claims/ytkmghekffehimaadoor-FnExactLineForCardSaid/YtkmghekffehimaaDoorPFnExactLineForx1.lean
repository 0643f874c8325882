/- Written by this session's program (wip/tool/xprint.py) over the kit's printer. -/
import Derived.Test.YtkmghekffehimaaDoorPFnExactLineForx0
namespace Go.Proofs.YtkmghekffehimaaDoor.PFnExactLineFor
open Go.RowKit Go.Proofs.YtkmghekffehimaaDoorW.PrintWords Go.Proofs.YtkmghekffehimaaDoorW.PrintLast Go.Proofs.YtkmghekffehimaaDoorW.PrintMore
attribute [local go_sem] max2_int min2_int max_two min_two max_three min_three max_four min_four   -- for this text's walks alone
set_option linter.unusedVariables false
set_option linter.unusedSimpArgs false

/-! ### spec_l07Is: function 32 -/
def spec_l07Is.l0 : Nat → ByteArray → Int → Option (Bool)
  | 0, _, _ => none
  | k + 1, x0, x3 => if x3 < (x0.size : Int) then (if 0 ≤ x3 then (if (bt x0 x3) = 97 then (spec_l07Is.l0 k x0 (wrap64 (x3 + 1))) else (if (bt x0 x3) = 98 then (spec_l07Is.l0 k x0 (wrap64 (x3 + 1))) else (some false))) else (none)) else (some (decide ((x0.size : Int) ≤ 120)))
def spec_l07Is.f (k : Nat) (a0 : ByteArray) : Option (Bool) := spec_l07Is.l0 k a0 0
theorem spec_l07Is.mono_l : ∀ k, (∀ y0 y1, LeO (spec_l07Is.l0 k y0 y1) (spec_l07Is.l0 (k + 1) y0 y1))
  | 0 => fun _ _ r h => by simp [spec_l07Is.l0] at h
  | k + 1 => by
   have ih0 := spec_l07Is.mono_l k
   intros
   unfold spec_l07Is.l0
   all_goals repeat' first | (with_reducible first | apply ih0 | exact LeO.refl _ | exact LeO.none _ | refine LeO.ite ?_ ?_ | refine LeO.bind ?_ (fun _ => ?_)) | apply ih0 | exact LeO.none _ | refine LeO.ite ?_ ?_ | refine LeO.bind ?_ (fun _ => ?_)
theorem spec_l07Is.mono : ∀ a0 k, LeO (spec_l07Is.f k a0) (spec_l07Is.f (k + 1) a0) := by
  intro a0 k
  have ih0 := spec_l07Is.mono_l k
  unfold spec_l07Is.f
  repeat' first | (with_reducible first | apply ih0 | exact LeO.refl _ | exact LeO.none _ | refine LeO.ite ?_ ?_ | refine LeO.bind ?_ (fun _ => ?_)) | apply ih0 | exact LeO.none _ | refine LeO.ite ?_ ?_ | refine LeO.bind ?_ (fun _ => ?_)
set_option maxHeartbeats 8000000 in
set_option maxRecDepth 100000 in
theorem spec_l07Is.calls (k : Nat) (a0 : ByteArray) (r : Bool) (w : World) (h : spec_l07Is.f k a0 = some r) :
    Calls Tryd.prog 32 #[.string a0] w fun e w' => e = .returned (.bool r) ∧ Drawn0 w w' := by
 have H : (spec_l07Is.l0 k a0 0) = some r := h; clear h; have H' := mA H; clear H; go_enter Tryd.func32, Tryd.ntmps32; go_wp2; go_loopg [3] k (fun kq v3 w' => ∃ (x3_1 : Int), v3 = .int .i64 x3_1 ∧ Aside0 (spec_l07Is.l0 kq a0 x3_1 = some r) ∧ Aside0 (kq ≤ k) ∧ Drawn0 w w')
 case atStart => exact ⟨(0), z3, H', ⟨Nat.le_refl _⟩, z6⟩
 case round =>
  clear H'; obtain ⟨x3_1, rfl, HA, HK1, ⟨m1, rfl⟩⟩ := hrel
  cases gk with
  | zero => exact absurd HA.out (by simp [spec_l07Is.l0])
  | succ k1 =>
   have H := HA.out; clear HA; simp only [spec_l07Is.l0] at H; refine sqC (x3_1 < (a0.size : Int)) (fun c2 => ?_) (fun c2 => ?_)
   ·rw [if_neg c2] at H; replace c2 := decide_eq_false c2; obtain rfl := Option.some.inj H; go_wp2; go_ret; exact ⟨z3, z6⟩
   rw [if_pos c2] at H; replace c2 := decide_eq_true c2; obtain ⟨c3, H⟩ := sqI H; replace c3 := decide_eq_true c3; by_cases c5 : (bt a0 x3_1) = 97
   ·rw [if_pos c5] at H; have c5b0 : ((bt a0 x3_1) == 97) = true := beq_iff_eq.mpr c5; have c5b1 : ((bt a0 x3_1) != 97) = false := bne_eq_false_iff_eq.mpr c5; clear c5; have H' := mA H; clear H; have p4 : 0 ≤ (x3_1 : Int) := sqd; have q4 : x3_1 < (a0.size : Int) := sqd; have hx4 := bt_at a0 x3_1; replace p4 := eq_true p4; replace q4 := eq_true q4; go_wp2; go_roundg k1
    case measure => have := HK1.out; omega
    case rel => exact ⟨(wrap64 (x3_1 + 1)), z3, H', ⟨by have := HK1.out; omega⟩, z6⟩
   rw [if_neg c5] at H; have c5b0 : ((bt a0 x3_1) == 97) = false := beq_eq_false_iff_ne.mpr c5; have c5b1 : ((bt a0 x3_1) != 97) = true := bne_iff_ne.mpr c5; refine sqC ((bt a0 x3_1) = 98) (fun c7 => ?_) (fun c7 => ?_)
   ·rw [if_neg c7] at H; have c7b0 : ((bt a0 x3_1) == 98) = false := beq_eq_false_iff_ne.mpr c7; have c7b1 : ((bt a0 x3_1) != 98) = true := bne_iff_ne.mpr c7; obtain rfl := Option.some.inj H; have p4 : 0 ≤ (x3_1 : Int) := sqd; have q4 : x3_1 < (a0.size : Int) := sqd; have hx4 := bt_at a0 x3_1; replace p4 := eq_true p4; replace q4 := eq_true q4; have p6 : 0 ≤ (x3_1 : Int) := sqd; have q6 : x3_1 < (a0.size : Int) := sqd; have hx6 := bt_at a0 x3_1; replace p6 := eq_true p6; replace q6 := eq_true q6; go_wp2; go_ret; exact ⟨z3, z6⟩
   rw [if_pos c7] at H; have c7b0 : ((bt a0 x3_1) == 98) = true := beq_iff_eq.mpr c7; have c7b1 : ((bt a0 x3_1) != 98) = false := bne_eq_false_iff_eq.mpr c7; clear c7; have H' := mA H; clear H; have p4 : 0 ≤ (x3_1 : Int) := sqd; have q4 : x3_1 < (a0.size : Int) := sqd; have hx4 := bt_at a0 x3_1; replace p4 := eq_true p4; replace q4 := eq_true q4; have p6 : 0 ≤ (x3_1 : Int) := sqd; have q6 : x3_1 < (a0.size : Int) := sqd; have hx6 := bt_at a0 x3_1; replace p6 := eq_true p6; replace q6 := eq_true q6; go_wp2; go_roundg k1
   case measure => have := HK1.out; omega
   case rel => exact ⟨(wrap64 (x3_1 + 1)), z3, H', ⟨by have := HK1.out; omega⟩, z6⟩

/-! ### spec_l07Heights: function 35 -/
def spec_l07Heights.l0 : Nat → ByteArray → List Int → Int → Option (List Int)
  | 0, _, _, _ => none
  | k + 1, x0, x3, x4 => if x4 < (x0.size : Int) then (if 0 ≤ x4 then (if x4 < (x3.length : Int) then (if x3.length < 17592186044416 then (spec_l07Heights.l0 k x0 (x3 ++ [wrap64 ((rd x3 x4) + (((bt x0 x4) - 97) % 256))]) (wrap64 (x4 + 1))) else (none)) else (none)) else (none)) else (some x3)
def spec_l07Heights.f (k : Nat) (a0 : ByteArray) : Option (List Int) := spec_l07Heights.l0 k a0 (([0] : List Int)) 0
theorem spec_l07Heights.mono_l : ∀ k, (∀ y0 y1 y2, LeO (spec_l07Heights.l0 k y0 y1 y2) (spec_l07Heights.l0 (k + 1) y0 y1 y2))
  | 0 => fun _ _ _ r h => by simp [spec_l07Heights.l0] at h
  | k + 1 => by
   have ih0 := spec_l07Heights.mono_l k
   intros
   unfold spec_l07Heights.l0
   all_goals repeat' first | (with_reducible first | apply ih0 | exact LeO.refl _ | exact LeO.none _ | refine LeO.ite ?_ ?_ | refine LeO.bind ?_ (fun _ => ?_)) | apply ih0 | exact LeO.none _ | refine LeO.ite ?_ ?_ | refine LeO.bind ?_ (fun _ => ?_)
theorem spec_l07Heights.mono : ∀ a0 k, LeO (spec_l07Heights.f k a0) (spec_l07Heights.f (k + 1) a0) := by
  intro a0 k
  have ih0 := spec_l07Heights.mono_l k
  unfold spec_l07Heights.f
  repeat' first | (with_reducible first | apply ih0 | exact LeO.refl _ | exact LeO.none _ | refine LeO.ite ?_ ?_ | refine LeO.bind ?_ (fun _ => ?_)) | apply ih0 | exact LeO.none _ | refine LeO.ite ?_ ?_ | refine LeO.bind ?_ (fun _ => ?_)
def spec_l07Heights.T5 : Bool × List (List Nat × List Nat) := (true, [([], []), ([], []), ([], []), ([1, 2], [1, 2]), ([3], [3]), ([], []), ([], []), ([5, 6], [5, 6]), ([7], [7]), ([8], [8]), ([4, 9], [4, 9]), ([10], [10]), ([0, 11], [0, 11]), ([12, 12, 0, 1, 2, 3, 4, 5, 6, 7, 8, 9, 10, 11, 12], [0, 1, 12])])
def spec_l07Heights.B5 : List Nat := [0, 0, 0, 6, 14, 0, 0, 96, 224, 480, 1022, 2046, 4095, 8191]
theorem spec_l07Heights.tab5 : rtab .any (opsOf Tryd.f35 5) = spec_l07Heights.T5 := by kernel_rfl
theorem spec_l07Heights.bits5 : waitsOk spec_l07Heights.T5.2 spec_l07Heights.B5 = true := by kernel_rfl
set_option maxHeartbeats 8000000 in
set_option maxRecDepth 100000 in
theorem spec_l07Heights.calls (k : Nat) (a0 : ByteArray) (r : List Int) (w : World) (h : spec_l07Heights.f k a0 = some r) :
    Calls Tryd.prog 35 #[.string a0] w fun e w' => ∃ v0_ : Value, e = .returned (v0_) ∧ Kd.R (Kd.int .i64) 2 w' w.heap.size (fun _ => True) v0_ r ∧ Below w.heap.size w w' := by
 have HB := mA (Below.refl w.heap.size w); have H : (spec_l07Heights.l0 k a0 (([0] : List Int)) 0) = some r := h; clear h; obtain ⟨y101, hy101⟩ : ∃ y_ : List Int, y_ = (([0] : List Int)) := ⟨_, rfl⟩
 replace H : (spec_l07Heights.l0 k a0 y101 0) = some r := by first | (rw [hy101]; with_reducible exact H) | (have H2_ := (Option.bind_some _ _).symm.trans H; rw [hy101]; with_reducible exact H2_) | (have H2_ := (Option.bind_some _ _).symm.trans H; with_reducible exact H2_) | with_reducible exact H | (rw [hy101]; exact H) | exact H
 have Ny101 := mA hy101; clear hy101; have H' := mA H; clear H; go_enter Tryd.func35, Tryd.ntmps35; go_wp2_with (first | ((with_reducible refine gate_dst (N := 5) rfl ?_); refine Kd.R_lit (Kd.int .i64) _ 2 ?hg (N := 5) ?hd (xs := ([0] : List Int)) (inner := [.int .i64 0]) (ok := fun _ => True) (okp := fun _ => True) ?hr ?hp (fun _ hk => hk) trivial (Below.refl _ _) (Nat.le_refl _) (by simp) ?_; (case hd => rfl); (case hg => rfl); (case hr => first | (go_simp; done) | (go_simp; rfl)); (case hp => exact (Reps.one (show Kd.M (Kd.int .i64) _ _ _ 0 [.int .i64 0] from rfl) (Reps.none _ _))); intro v102 w2 ho3 hb hg_ hnew_; clear hg_ hnew_; (first | rw [← Ny101.out] at ho3 | (simp only [Int.reduceToNat] at ho3; rw [← Ny101.out] at ho3)); have HO103 := mA (Kd.R_lower ho3 (below_size z1)); replace HB := mA (below_step z1 hb); clear hb ho3)); go_loopg [3, 4] k (fun kq v3 v4 w' => ∃ (x3_1 : List Int) (x4_1 : Int), v4 = .int .i64 x4_1 ∧ Aside0 (spec_l07Heights.l0 kq a0 x3_1 x4_1 = some r) ∧ Aside0 (kq ≤ k) ∧ Aside0 (Kd.R (Kd.int .i64) 2 w' w.heap.size (fun _ => True) v3 x3_1) ∧ Aside0 (Below w.heap.size w w'))
 case atStart => exact ⟨(y101), (0), z3, H', ⟨Nat.le_refl _⟩, ⟨z5 HO103⟩, ⟨z1⟩⟩
 case round =>
  clear H'; (try clear p2); (try clear c3); obtain ⟨x3_1, x4_1, rfl, HA, HK1, HO_3, HB⟩ := hrel
  cases gk with
  | zero => exact absurd HA.out (by simp [spec_l07Heights.l0])
  | succ k1 =>
   have H := HA.out; clear HA; simp only [spec_l07Heights.l0] at H; refine sqC (x4_1 < (a0.size : Int)) (fun c4 => ?_) (fun c4 => ?_)
   ·rw [if_neg c4] at H; replace c4 := decide_eq_false c4; obtain rfl := Option.some.inj H; go_wp2; go_ret; exact ⟨_, z7, z5 HO_3, z1⟩
   rw [if_pos c4] at H; replace c4 := decide_eq_true c4; obtain ⟨c5, H⟩ := sqI H; replace c5 := decide_eq_true c5; obtain ⟨c6, H⟩ := sqI H; replace c6 := decide_eq_true c6; obtain ⟨c8, H⟩ := sqI H; have LMc8 := mA c8; clear c8; obtain ⟨y105, hy105⟩ : ∃ y_ : List Int, y_ = (x3_1 ++ [wrap64 ((rd x3_1 x4_1) + (((bt a0 x4_1) - 97) % 256))]) := ⟨_, rfl⟩
   replace H : (spec_l07Heights.l0 k1 a0 y105 (wrap64 (x4_1 + 1))) = some r := by first | (rw [hy105]; with_reducible exact H) | (have H2_ := (Option.bind_some _ _).symm.trans H; rw [hy105]; with_reducible exact H2_) | (have H2_ := (Option.bind_some _ _).symm.trans H; with_reducible exact H2_) | with_reducible exact H | (rw [hy105]; exact H) | exact H
   have Ny105 := mA hy105; clear hy105; have H' := mA H; clear H; (try go_wp2); replace HO_3 := mA (Kd.R_drew HO_3.out); replace HB := mA (below_drew1 HB.out); obtain ⟨Ao10, co10, eo10⟩ := Kd.R_slice HO_3.out; (first | subst eo10 | (injection eo10 with f1_ f2_ f3_; have f4_ := f1_.symm; have f5_ := f3_.symm; clear f1_ f2_ f3_; subst f4_; subst f5_)); have p104 : 0 ≤ (x4_1 : Int) := sqd; have q104 : x4_1 < (x3_1.length : Int) := sqd; obtain ⟨ad104, e104, hx104_0⟩ := Kd.at_int (Kd.R_reads' HO_3.out).2.2 x4_1 p104 q104
   cases e104
   replace p104 := eq_true p104; replace q104 := eq_true q104; have p7 : 0 ≤ (x4_1 : Int) := sqd; have q7 : x4_1 < (a0.size : Int) := sqd; have hx7 := bt_at a0 x4_1; replace p7 := eq_true p7; replace q7 := eq_true q7; refine start_ (n := 14) (S := fun w' => w'.cell? (ad104.add (x4_1).toNat) = some (.int .i64 (rd x3_1 x4_1))) (ds := [11, 12]) #[false, false, false, false, false, false, false, false, false, false, false, false, false, false] (by kernel_rfl) rfl rfl (hx104_0) (fun hHeld => ?_); refine with_tabW spec_l07Heights.tab5 spec_l07Heights.bits5 (fun HT_ HW_ => ?_); generalize wr.drew = w9 at HO_3 HB hx104_0 hHeld ⊢; refine sqr0 0 (some 12) ?_; refine sqr0 1 (some 13) ?_; refine sqr0 2 (some 14) ?_; refine sqr0 3 (some 15) ?_; refine sqr0 5 (some 17) ?_; refine sqr0 6 (some 18) ?_; refine sqr1 4 (some 16) ?_; refine sqr1 7 (some 19) ?_; refine sqr0 8 (some 20) ?_; refine sqr0 9 (some 21) ?_; refine sqr0 10 (some 22) ?_; refine last_ (i := 11) (N := some 23) #[true, true, true, true, true, true, true, true, true, true, true, true, false, false] rfl rfl (one_of HT_.out (by kernel_rfl)) (by decide) (fun K hK => ?_); refine value_ (w1 := ?_) (v := ?_) (by rfl) rfl ?_ ?_; rotate_left 2
   ·go_simp; constructor
    ·rfl
    ·rfl
   refine hK.out _ _ ?_; clear hK K; refine sqr2 ?_; refine last_ (i := 12) (N := some 24) #[true, true, true, true, true, true, true, true, true, true, true, true, true, false] rfl rfl (one_of HT_.out (by kernel_rfl)) (by decide) (fun K hK => ?_); refine Kd.R_append_step (Kd.int .i64) (w0 := w) w.heap.size (by rfl) (.tmp 12) (.tmp 23) 25 2 (.int .i64 0) 8 rfl Tryd.underlying25 info2 rfl (by decide) (by omega) (.slice (some ad104) x3_1.length co10) x3_1 (wrap64 ((rd x3_1 x4_1) + (((bt a0 x4_1) - 97) % 256))) [.int .i64 (wrap64 ((rd x3_1 x4_1) + (((bt a0 x4_1) - 97) % 256)))] (fun _ => True) (fun _ => False) rfl rfl ?aP (fun _ hk => hk.elim) ?aF ?aO ?aB ?aS ?aL ?_; (case aP => exact rfl); (case aB => exact z1); (case aF => exact (fun _ _ => trivial)); (case aO => exact (z5 HO_3)); (case aS => exact (below_size z1)); (case aL => have := LMc8.out; omega); intro v106 w11 ho hb hg hat; rw [← Ny105.out] at ho; replace HB := mA (hb); have HO107 := mA (ho); clear HO_3 ho hb hg hat; refine hK.out _ _ ?_; clear hK K; refine sqr2 ?_; refine sqr0 13 (some 3) ?_; refine done_ (done_of HT_.out (by kernel_rfl)) ?_; (try go_wp2); go_roundg k1
   case measure => have := HK1.out; omega
   case rel => exact ⟨(y105), (wrap64 (x4_1 + 1)), z3, H', ⟨by have := HK1.out; omega⟩, ⟨z5 HO107⟩, ⟨z1⟩⟩

/-! ### spec_l00Max: function 40 -/
def spec_l00Max.f (a0 : Int) (a1 : Int) : Option (Int) := if a0 > a1 then (some a0) else (some a1)
set_option maxHeartbeats 8000000 in
set_option maxRecDepth 100000 in
theorem spec_l00Max.calls (a0 : Int) (a1 : Int) (r : Int) (w : World) (h : spec_l00Max.f a0 a1 = some r) :
    Calls Tryd.prog 40 #[.int .i64 a0, .int .i64 a1] w fun e w' => e = .returned (.int .i64 r) ∧ Drawn0 w w' := by
 have H : (if a0 > a1 then (some a0) else (some a1)) = some r := h; clear h; by_cases c3 : a0 > a1
 ·rw [if_pos c3] at H; replace c3 := decide_eq_true c3; obtain rfl := Option.some.inj H; go_enter Tryd.func40, Tryd.ntmps40; go_wp2; go_ret; exact ⟨z3, z6⟩
 rw [if_neg c3] at H; replace c3 := decide_eq_false c3; obtain rfl := Option.some.inj H; go_enter Tryd.func40, Tryd.ntmps40; go_wp2; go_ret; exact ⟨z3, z6⟩

/-! ### spec_l00Min: function 44 -/
def spec_l00Min.f (a0 : Int) (a1 : Int) : Option (Int) := if a0 < a1 then (some a0) else (some a1)
set_option maxHeartbeats 8000000 in
set_option maxRecDepth 100000 in
theorem spec_l00Min.calls (a0 : Int) (a1 : Int) (r : Int) (w : World) (h : spec_l00Min.f a0 a1 = some r) :
    Calls Tryd.prog 44 #[.int .i64 a0, .int .i64 a1] w fun e w' => e = .returned (.int .i64 r) ∧ Drawn0 w w' := by
 have H : (if a0 < a1 then (some a0) else (some a1)) = some r := h; clear h; by_cases c3 : a0 < a1
 ·rw [if_pos c3] at H; replace c3 := decide_eq_true c3; obtain rfl := Option.some.inj H; go_enter Tryd.func44, Tryd.ntmps44; go_wp2; go_ret; exact ⟨z3, z6⟩
 rw [if_neg c3] at H; replace c3 := decide_eq_false c3; obtain rfl := Option.some.inj H; go_enter Tryd.func44, Tryd.ntmps44; go_wp2; go_ret; exact ⟨z3, z6⟩

/-! ### spec_LineFor: function 24 -/
mutual
def spec_LineFor.l0 : Nat → List Int → Int → Option (Int × Int × Int × Bool)
  | 0, _, _ => none
  | k + 1, x6, x7 => if x7 ≤ 1000 then (spec_LineFor.l1 k x6 x7 0) else (some (0, 0, 0, false))
def spec_LineFor.l1 : Nat → List Int → Int → Int → Option (Int × Int × Int × Bool)
  | 0, _, _, _ => none
  | k + 1, x6, x7, x8 => if x8 ≤ x7 then (spec_LineFor.l2 k x6 x7 x8 0 (wrap64 (x7 - 1)) 0) else (spec_LineFor.l0 k x6 (wrap64 (x7 + 1)))
def spec_LineFor.l2 : Nat → List Int → Int → Int → Int → Int → Int → Option (Int × Int × Int × Bool)
  | 0, _, _, _, _, _, _ => none
  | k + 1, x6, x7, x8, x9, x10, x11 => if x11 < (x6.length : Int) then (spec_LineFor.j3 k x6 x7 x8 x9 x10 x11 (decide (x9 ≤ x10))) else (spec_LineFor.j3 k x6 x7 x8 x9 x10 x11 false)
def spec_LineFor.j3 : Nat → List Int → Int → Int → Int → Int → Int → Bool → Option (Int × Int × Int × Bool)
  | 0, _, _, _, _, _, _, _ => none
  | k + 1, x6, x7, x8, x9, x10, x11, x36 => if x36 = true then (if 0 ≤ x11 then (if x11 < (x6.length : Int) then ((spec_l00Max.f x9 (wrap64 ((wrap64 ((rd x6 x11) * x7)) - (wrap64 (x11 * x8))))).bind fun t113 => ((spec_l00Min.f x10 (wrap64 ((wrap64 ((wrap64 ((wrap64 ((rd x6 x11) + 1)) * x7)) - (wrap64 (x11 * x8)))) - 1))).bind fun t115 => (spec_LineFor.l2 k x6 x7 x8 t113 t115 (wrap64 (x11 + 1))))) else (none)) else (none)) else (if x9 ≤ x10 then (some (x8, x7, x9, true)) else (spec_LineFor.l1 k x6 x7 (wrap64 (x8 + 1))))
end
def spec_LineFor.f (k : Nat) (a0 : ByteArray) : Option (Int × Int × Int × Bool) := (spec_l07Is.f k a0).bind fun t108 => (if t108 = true then ((spec_l07Heights.f k a0).bind fun t109 => (spec_LineFor.l0 k t109 1)) else (some (0, 0, 0, false)))
theorem spec_LineFor.mono_l : ∀ k, (∀ y0 y1, LeO (spec_LineFor.l0 k y0 y1) (spec_LineFor.l0 (k + 1) y0 y1)) ∧ (∀ y0 y1 y2, LeO (spec_LineFor.l1 k y0 y1 y2) (spec_LineFor.l1 (k + 1) y0 y1 y2)) ∧ (∀ y0 y1 y2 y3 y4 y5, LeO (spec_LineFor.l2 k y0 y1 y2 y3 y4 y5) (spec_LineFor.l2 (k + 1) y0 y1 y2 y3 y4 y5)) ∧ (∀ y0 y1 y2 y3 y4 y5 y6, LeO (spec_LineFor.j3 k y0 y1 y2 y3 y4 y5 y6) (spec_LineFor.j3 (k + 1) y0 y1 y2 y3 y4 y5 y6))
  | 0 => ⟨fun _ _ r h => by simp [spec_LineFor.l0] at h, fun _ _ _ r h => by simp [spec_LineFor.l1] at h, fun _ _ _ _ _ _ r h => by simp [spec_LineFor.l2] at h, fun _ _ _ _ _ _ _ r h => by simp [spec_LineFor.j3] at h⟩
  | k + 1 => by
   obtain ⟨ih0, ih1, ih2, ih3⟩ := spec_LineFor.mono_l k
   refine ⟨?_, ?_, ?_, ?_⟩ <;> intros
   all_goals first | unfold spec_LineFor.l0 | unfold spec_LineFor.l1 | unfold spec_LineFor.l2 | unfold spec_LineFor.j3
   all_goals repeat' first | (with_reducible first | apply ih0 | apply ih1 | apply ih2 | apply ih3 | apply spec_l07Heights.mono | apply spec_l07Is.mono | exact LeO.refl _ | exact LeO.none _ | refine LeO.ite ?_ ?_ | refine LeO.bind ?_ (fun _ => ?_)) | apply ih0 | apply ih1 | apply ih2 | apply ih3 | apply spec_l07Heights.mono | apply spec_l07Is.mono | exact LeO.none _ | refine LeO.ite ?_ ?_ | refine LeO.bind ?_ (fun _ => ?_)
theorem spec_LineFor.mono : ∀ a0 k, LeO (spec_LineFor.f k a0) (spec_LineFor.f (k + 1) a0) := by
  intro a0 k
  obtain ⟨ih0, ih1, ih2, ih3⟩ := spec_LineFor.mono_l k
  unfold spec_LineFor.f
  repeat' first | (with_reducible first | apply ih0 | apply ih1 | apply ih2 | apply ih3 | apply spec_l07Heights.mono | apply spec_l07Is.mono | exact LeO.refl _ | exact LeO.none _ | refine LeO.ite ?_ ?_ | refine LeO.bind ?_ (fun _ => ?_)) | apply ih0 | apply ih1 | apply ih2 | apply ih3 | apply spec_l07Heights.mono | apply spec_l07Is.mono | exact LeO.none _ | refine LeO.ite ?_ ?_ | refine LeO.bind ?_ (fun _ => ?_)
set_option maxHeartbeats 8000000 in
set_option maxRecDepth 100000 in
theorem spec_LineFor.calls (k : Nat) (a0 : ByteArray) (r1 : Int) (r2 : Int) (r3 : Int) (r4 : Bool) (w : World) (h : spec_LineFor.f k a0 = some (r1, r2, r3, r4)) :
    Calls Tryd.prog 24 #[.string a0] w fun e w' => e = .returned (.tuple #[.int .i64 r1, .int .i64 r2, .int .i64 r3, .bool r4]) ∧ Below w.heap.size w w' := by
 have HB := mA (Below.refl w.heap.size w); have H : ((spec_l07Is.f k a0).bind fun t108 => (if t108 = true then ((spec_l07Heights.f k a0).bind fun t109 => (spec_LineFor.l0 k t109 1)) else (some (0, 0, 0, false)))) = some (r1, r2, r3, r4) := h; clear h; obtain ⟨t108, A2, H⟩ := sqB H; refine sqC (t108 = true) (fun c3 => ?_) (fun c3 => ?_)
 ·replace c3 := Bool.eq_false_iff.mpr c3; subst c3; rw [if_neg (show ¬ (false = true) by decide)] at H; simp only [Option.some.injEq, Prod.mk.injEq] at H; obtain ⟨rfl, rfl, rfl, rfl⟩ := H; go_enter Tryd.func24, Tryd.ntmps24; go_wp2_with (first | (refine sqG 32 (some 13) Tryd.func32 #[.string a0] (h := ?_); (with_reducible refine (spec_l07Is.calls k a0 false _ A2.out).mono ?_); rintro e w' ⟨rfl, ⟨nd, rfl⟩⟩; refine ⟨_, rfl, ?_⟩)); refine bodyPost_ret (results_list (rs := [.tmp 2, .tmp 3, .tmp 4, .tmp 5]) rfl (by simp) (.tmp (.tmp (.tmp (.tmp .nil))))) rfl ?_; exact ⟨z7, z1⟩
 subst c3; rw [if_pos rfl] at H; obtain ⟨t109, A4, H⟩ := sqB H; have H' := mA H; clear H; go_enter Tryd.func24, Tryd.ntmps24; go_wp2_with (first | (refine sqG 32 (some 13) Tryd.func32 #[.string a0] (h := ?_); (with_reducible refine (spec_l07Is.calls k a0 true _ A2.out).mono ?_); rintro e w' ⟨rfl, ⟨nd, rfl⟩⟩; refine ⟨_, rfl, ?_⟩) | (refine sqG 35 (some 16) Tryd.func35 #[.string a0] (h := ?_); (with_reducible refine (spec_l07Heights.calls k a0 t109 _ A4.out).mono ?_); rintro e w5 ⟨v110, rfl, ho0, hb⟩; refine ⟨_, rfl, ?_⟩; have HO111 := mA (Kd.R_lower ho0 (below_size z1)); replace HB := mA (below_step z1 hb); (try clear hb ho0))); go_loopg [7] k (fun kq v7 w' => ∃ (x7_1 : Int), v7 = .int .i64 x7_1 ∧ Aside0 (spec_LineFor.l0 kq t109 x7_1 = some (r1, r2, r3, r4)) ∧ Aside0 (kq ≤ k) ∧ Aside0 (Kd.R (Kd.int .i64) 2 w' w.heap.size (fun _ => True) v110 t109) ∧ Aside0 (Below w.heap.size w w'))
 case atStart => exact ⟨(1), z3, H', ⟨Nat.le_refl _⟩, ⟨z5 HO111⟩, ⟨z1⟩⟩
 case round =>
  clear H'; (try clear c2); (try clear p2); (try clear c3); obtain ⟨x7_1, rfl, HA, HK1, HO_6, HB⟩ := hrel
  cases gk with
  | zero => exact absurd HA.out (by simp [spec_LineFor.l0])
  | succ k1 =>
   have H := HA.out; clear HA; simp only [spec_LineFor.l0] at H; refine sqC (x7_1 ≤ 1000) (fun c6 => ?_) (fun c6 => ?_)
   ·rw [if_neg c6] at H; replace c6 := decide_eq_false c6; simp only [Option.some.injEq, Prod.mk.injEq] at H; obtain ⟨rfl, rfl, rfl, rfl⟩ := H; go_wp2; refine bodyPost_ret (results_list (rs := [.tmp 2, .tmp 3, .tmp 4, .tmp 5]) rfl (by simp) (.tmp (.tmp (.tmp (.tmp .nil))))) rfl ?_; exact ⟨z7, z1⟩
   rw [if_pos c6] at H; replace c6 := decide_eq_true c6; have H' := mA H; clear H; go_wp2; go_loopg [8] k1 (fun kq v8 w' => ∃ (x8_2 : Int), v8 = .int .i64 x8_2 ∧ Aside0 (spec_LineFor.l1 kq t109 x7_1 x8_2 = some (r1, r2, r3, r4)) ∧ Aside0 (kq ≤ k1) ∧ Aside0 (Kd.R (Kd.int .i64) 2 w' w.heap.size (fun _ => True) v110 t109) ∧ Aside0 (Below w.heap.size w w'))
   case atStart => exact ⟨(0), z3, H', ⟨Nat.le_refl _⟩, ⟨z5 HO_6⟩, ⟨z1⟩⟩
   case round =>
    clear H'; (try clear c2); (try clear p2); (try clear c3); (try clear c6); (try clear c6b0); (try clear p2); obtain ⟨x8_2, rfl, HA, HK2, HO_6, HB⟩ := hrel
    cases gk with
    | zero => exact absurd HA.out (by simp [spec_LineFor.l1])
    | succ k2 =>
     have H := HA.out; clear HA; simp only [spec_LineFor.l1] at H; refine sqC (x8_2 ≤ x7_1) (fun c7 => ?_) (fun c7 => ?_)
     ·rw [if_neg c7] at H; replace c7 := decide_eq_false c7; have H' := mA H; clear H; go_wp2; go_roundg k2
      case measure => have := HK1.out; have := HK2.out; omega
      case rel => exact ⟨(wrap64 (x7_1 + 1)), z3, H', ⟨z9 HK1 HK2⟩, ⟨z5 HO_6⟩, ⟨z1⟩⟩
     rw [if_pos c7] at H; replace c7 := decide_eq_true c7; have H' := mA H; clear H; go_wp2; go_loopg [9, 10, 11] k2 (fun kq v9 v10 v11 w' => ∃ (x9_3 : Int) (x10_3 : Int) (x11_3 : Int), v9 = .int .i64 x9_3 ∧ v10 = .int .i64 x10_3 ∧ v11 = .int .i64 x11_3 ∧ Aside0 (spec_LineFor.l2 kq t109 x7_1 x8_2 x9_3 x10_3 x11_3 = some (r1, r2, r3, r4)) ∧ Aside0 (kq ≤ k2) ∧ Aside0 (Kd.R (Kd.int .i64) 2 w' w.heap.size (fun _ => True) v110 t109) ∧ Aside0 (Below w.heap.size w w'))
     case atStart => exact ⟨(0), (wrap64 (x7_1 - 1)), (0), z3, z3, z3, H', ⟨Nat.le_refl _⟩, ⟨z5 HO_6⟩, ⟨z1⟩⟩
     case round =>
      clear H'; (try clear c2); (try clear p2); (try clear c3); (try clear c6); (try clear c6b0); (try clear p6); (try clear c7); (try clear c7b0); (try clear p2); obtain ⟨x9_3, x10_3, x11_3, rfl, rfl, rfl, HA, HK3, HO_6, HB⟩ := hrel
      cases gk with
      | zero => exact absurd HA.out (by simp [spec_LineFor.l2])
      | succ k3 =>
       have H := HA.out; clear HA; simp only [spec_LineFor.l2] at H; have HC8 := mA H; clear H
       go_upto_region 13 with (fail)
       go_cut [36] (fun v36 wc => ∃ (kq : Nat) (x36_7 : Bool), v36 = .bool x36_7 ∧ Aside0 (spec_LineFor.j3 kq t109 x7_1 x8_2 x9_3 x10_3 x11_3 x36_7 = some (r1, r2, r3, r4)) ∧ Aside0 (kq ≤ k3) ∧ Aside0 (Kd.R (Kd.int .i64) 2 wc w.heap.size (fun _ => True) v110 t109) ∧ Aside0 (Below w.heap.size w wc))
       case first =>
        have H := HC8.out; clear HC8; refine sqC (x11_3 < (t109.length : Int)) (fun c9 => ?_) (fun c9 => ?_)
        ·rw [if_neg c9] at H; have c9b0 := decide_eq_false c9; clear c9; (first | rw [c9b0] | (simp only [i64_w, i32_w]; rw [c9b0]) | skip); have H' := mA H; clear H; obtain ⟨Ao11, co11, eo11⟩ := Kd.R_slice HO_6.out; subst eo11; go_wp2; go_meet
         case rel => exact ⟨_, (false), z3, H', ⟨by have := HK1.out; have := HK2.out; have := HK3.out; first | omega | exact Nat.le_refl _⟩, ⟨z5 HO_6⟩, ⟨z1⟩⟩
        rw [if_pos c9] at H; have c9b0 := decide_eq_true c9; clear c9; (first | rw [c9b0] | (simp only [i64_w, i32_w]; rw [c9b0]) | skip); have H' := mA H; clear H; obtain ⟨Ao10, co10, eo10⟩ := Kd.R_slice HO_6.out; subst eo10; go_wp2; go_meet
        case rel => exact ⟨_, (decide (x9_3 ≤ x10_3)), z3, H', ⟨by have := HK1.out; have := HK2.out; have := HK3.out; first | omega | exact Nat.le_refl _⟩, ⟨z5 HO_6⟩, ⟨z1⟩⟩
       case rest =>
        clear HC8; (try clear c2); (try clear p2); (try clear c3); (try clear c6); (try clear c6b0); (try clear p6); (try clear c7); (try clear c7b0); (try clear c9); (try clear c9b0); (try clear p2); (try clear p6); obtain ⟨kq, x36_7, rfl, HA, HJ7, HO_6, HB⟩ := hcut
        cases kq with
        | zero => exact absurd HA.out (by simp [spec_LineFor.j3])
        | succ kj7 =>
         have H := HA.out; clear HA; simp only [spec_LineFor.j3] at H; refine sqC (x36_7 = true) (fun c12 => ?_) (fun c12 => ?_)
         ·replace c12 := Bool.eq_false_iff.mpr c12; subst c12; rw [if_neg (show ¬ (false = true) by decide)] at H; by_cases c18 : x9_3 ≤ x10_3
          ·rw [if_pos c18] at H; replace c18 := decide_eq_true c18; simp only [Option.some.injEq, Prod.mk.injEq] at H; obtain ⟨rfl, rfl, rfl, rfl⟩ := H; go_wp2; refine bodyPost_ret (results_list (rs := [.tmp 2, .tmp 3, .tmp 4, .tmp 5]) rfl (by simp) (.tmp (.tmp (.tmp (.tmp .nil))))) rfl ?_; exact ⟨z7, z1⟩
          rw [if_neg c18] at H; replace c18 := decide_eq_false c18; have H' := mA H; clear H; go_wp2; go_roundg kj7
          case measure => have := HK1.out; have := HK2.out; have := HK3.out; have := HJ7.out; omega
          case rel => exact ⟨(wrap64 (x8_2 + 1)), z3, H', ⟨by have := HK1.out; have := HK2.out; have := HK3.out; have := HJ7.out; omega⟩, ⟨z5 HO_6⟩, ⟨z1⟩⟩
         subst c12; rw [if_pos rfl] at H; obtain ⟨c13, H⟩ := sqI H; replace c13 := decide_eq_true c13; obtain ⟨c14, H⟩ := sqI H; replace c14 := decide_eq_true c14; obtain ⟨t113, A15, H⟩ := sqB H; obtain ⟨t115, A16, H⟩ := sqB H; have H' := mA H; clear H; obtain ⟨Ao17, co17, eo17⟩ := Kd.R_slice HO_6.out; subst eo17; have p112 : 0 ≤ (x11_3 : Int) := sqd; have q112 : x11_3 < (t109.length : Int) := sqd; obtain ⟨ad112, e112, hx112_0⟩ := Kd.at_int (Kd.R_reads' HO_6.out).2.2 x11_3 p112 q112
         cases e112
         replace p112 := eq_true p112; replace q112 := eq_true q112; go_wp2_with (first | (refine sqG 40 (some 50) Tryd.func40 #[.int .i64 x9_3, .int .i64 (wrap64 ((wrap64 ((rd t109 x11_3) * x7_1)) - (wrap64 (x11_3 * x8_2))))] (h := ?_); (with_reducible refine (spec_l00Max.calls x9_3 (wrap64 ((wrap64 ((rd t109 x11_3) * x7_1)) - (wrap64 (x11_3 * x8_2)))) t113 _ A15.out).mono ?_); rintro e w' ⟨rfl, ⟨nd, rfl⟩⟩; refine ⟨_, rfl, ?_⟩; have p114 : 0 ≤ (x11_3 : Int) := sqd; have q114 : x11_3 < (t109.length : Int) := sqd; obtain ⟨ad114, e114, hx114_0⟩ := Kd.at_int (Kd.R_reads' HO_6.out).2.2 x11_3 p114 q114; obtain rfl : ad112 = ad114 := (by injection e114); replace p114 := eq_true p114; replace q114 := eq_true q114) | (refine sqG 44 (some 64) Tryd.func44 #[.int .i64 x10_3, .int .i64 (wrap64 ((wrap64 ((wrap64 ((wrap64 ((rd t109 x11_3) + 1)) * x7_1)) - (wrap64 (x11_3 * x8_2)))) - 1))] (h := ?_); (with_reducible refine (spec_l00Min.calls x10_3 (wrap64 ((wrap64 ((wrap64 ((wrap64 ((rd t109 x11_3) + 1)) * x7_1)) - (wrap64 (x11_3 * x8_2)))) - 1)) t115 _ A16.out).mono ?_); rintro e w' ⟨rfl, ⟨nd, rfl⟩⟩; refine ⟨_, rfl, ?_⟩)); go_roundg kj7
         case measure => have := HK1.out; have := HK2.out; have := HK3.out; have := HJ7.out; omega
         case rel => exact ⟨(t113), (t115), (wrap64 (x11_3 + 1)), z3, z3, z3, H', ⟨by have := HK1.out; have := HK2.out; have := HK3.out; have := HJ7.out; omega⟩, ⟨z5 HO_6⟩, ⟨z1⟩⟩

end Go.Proofs.YtkmghekffehimaaDoor.PFnExactLineFor
