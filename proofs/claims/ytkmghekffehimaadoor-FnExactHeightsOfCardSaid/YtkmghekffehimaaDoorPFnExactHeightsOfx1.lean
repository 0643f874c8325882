/- Written by this session's program (wip/tool/xprint.py) over the kit's printer. -/
import Derived.Test.YtkmghekffehimaaDoorPFnExactHeightsOfx0
namespace Go.Proofs.YtkmghekffehimaaDoor.PFnExactHeightsOf
open Go.RowKit Go.Proofs.YtkmghekffehimaaDoorW.PrintWords Go.Proofs.YtkmghekffehimaaDoorW.PrintLast Go.Proofs.YtkmghekffehimaaDoorW.PrintMore
attribute [local go_sem] max2_int min2_int max_two min_two max_three min_three max_four min_four   -- for this text's walks alone
set_option linter.unusedVariables false
set_option linter.unusedSimpArgs false

/-! ### spec_l07Is: function 32 -/
def spec_l07Is.l0 : Nat → ByteArray → Int → Option (Bool)
  | 0, _, _ => none
  | k + 1, x0, x3 => if x3 < (x0.size : Int) then (if 0 ≤ x3 then (if (bt x0 x3) = 97 then (spec_l07Is.l0 k x0 (wrap64 (x3 + 1))) else (if (bt x0 x3) = 98 then (spec_l07Is.l0 k x0 (wrap64 (x3 + 1))) else (some false))) else (none)) else (some (decide ((x0.size : Int) ≤ 120)))
def spec_l07Is.f (k : Nat) (a0 : ByteArray) : Option (Bool) := spec_l07Is.l0 k a0 0
theorem spec_l07Is.mono_l : ∀ k, (∀ y0 y1, LeO (spec_l07Is.l0 k y0 y1) (spec_l07Is.l0 (k + 1) y0 y1))
  | 0 => fun _ _ r h => by simp [spec_l07Is.l0] at h
  | k + 1 => by
   have ih0 := spec_l07Is.mono_l k
   intros
   unfold spec_l07Is.l0
   all_goals repeat' first | (with_reducible first | apply ih0 | exact LeO.refl _ | exact LeO.none _ | refine LeO.ite ?_ ?_ | refine LeO.bind ?_ (fun _ => ?_)) | apply ih0 | exact LeO.none _ | refine LeO.ite ?_ ?_ | refine LeO.bind ?_ (fun _ => ?_)
theorem spec_l07Is.mono : ∀ a0 k, LeO (spec_l07Is.f k a0) (spec_l07Is.f (k + 1) a0) := by
  intro a0 k
  have ih0 := spec_l07Is.mono_l k
  unfold spec_l07Is.f
  repeat' first | (with_reducible first | apply ih0 | exact LeO.refl _ | exact LeO.none _ | refine LeO.ite ?_ ?_ | refine LeO.bind ?_ (fun _ => ?_)) | apply ih0 | exact LeO.none _ | refine LeO.ite ?_ ?_ | refine LeO.bind ?_ (fun _ => ?_)
set_option maxHeartbeats 8000000 in
set_option maxRecDepth 100000 in
theorem spec_l07Is.calls (k : Nat) (a0 : ByteArray) (r : Bool) (w : World) (h : spec_l07Is.f k a0 = some r) :
    Calls Tryd.prog 32 #[.string a0] w fun e w' => e = .returned (.bool r) ∧ Drawn0 w w' := by
 have H : (spec_l07Is.l0 k a0 0) = some r := h; clear h; have H' := mA H; clear H; go_enter Tryd.func32, Tryd.ntmps32; go_wp2; go_loopg [3] k (fun kq v3 w' => ∃ (x3_1 : Int), v3 = .int .i64 x3_1 ∧ Aside0 (spec_l07Is.l0 kq a0 x3_1 = some r) ∧ Aside0 (kq ≤ k) ∧ Drawn0 w w')
 case atStart => exact ⟨(0), z1, H', ⟨Nat.le_refl _⟩, z2⟩
 case round =>
  clear H'; obtain ⟨x3_1, rfl, HA, HK1, ⟨m1, rfl⟩⟩ := hrel
  cases gk with
  | zero => exact absurd HA.out (by simp [spec_l07Is.l0])
  | succ k1 =>
   have H := HA.out; clear HA; simp only [spec_l07Is.l0] at H; refine sqC (x3_1 < (a0.size : Int)) (fun c2 => ?_) (fun c2 => ?_)
   ·rw [if_neg c2] at H; replace c2 := decide_eq_false c2; obtain rfl := Option.some.inj H; go_wp2; go_ret; exact ⟨z1, z2⟩
   rw [if_pos c2] at H; replace c2 := decide_eq_true c2; obtain ⟨c3, H⟩ := sqI H; replace c3 := decide_eq_true c3; by_cases c5 : (bt a0 x3_1) = 97
   ·rw [if_pos c5] at H; have c5b0 : ((bt a0 x3_1) == 97) = true := beq_iff_eq.mpr c5; have c5b1 : ((bt a0 x3_1) != 97) = false := bne_eq_false_iff_eq.mpr c5; clear c5; have H' := mA H; clear H; have p4 : 0 ≤ (x3_1 : Int) := sqd; have q4 : x3_1 < (a0.size : Int) := sqd; have hx4 := bt_at a0 x3_1; replace p4 := eq_true p4; replace q4 := eq_true q4; go_wp2; go_roundg k1
    case measure => have := HK1.out; omega
    case rel => exact ⟨(wrap64 (x3_1 + 1)), z1, H', ⟨by have := HK1.out; omega⟩, z2⟩
   rw [if_neg c5] at H; have c5b0 : ((bt a0 x3_1) == 97) = false := beq_eq_false_iff_ne.mpr c5; have c5b1 : ((bt a0 x3_1) != 97) = true := bne_iff_ne.mpr c5; refine sqC ((bt a0 x3_1) = 98) (fun c7 => ?_) (fun c7 => ?_)
   ·rw [if_neg c7] at H; have c7b0 : ((bt a0 x3_1) == 98) = false := beq_eq_false_iff_ne.mpr c7; have c7b1 : ((bt a0 x3_1) != 98) = true := bne_iff_ne.mpr c7; obtain rfl := Option.some.inj H; have p4 : 0 ≤ (x3_1 : Int) := sqd; have q4 : x3_1 < (a0.size : Int) := sqd; have hx4 := bt_at a0 x3_1; replace p4 := eq_true p4; replace q4 := eq_true q4; have p6 : 0 ≤ (x3_1 : Int) := sqd; have q6 : x3_1 < (a0.size : Int) := sqd; have hx6 := bt_at a0 x3_1; replace p6 := eq_true p6; replace q6 := eq_true q6; go_wp2; go_ret; exact ⟨z1, z2⟩
   rw [if_pos c7] at H; have c7b0 : ((bt a0 x3_1) == 98) = true := beq_iff_eq.mpr c7; have c7b1 : ((bt a0 x3_1) != 98) = false := bne_eq_false_iff_eq.mpr c7; clear c7; have H' := mA H; clear H; have p4 : 0 ≤ (x3_1 : Int) := sqd; have q4 : x3_1 < (a0.size : Int) := sqd; have hx4 := bt_at a0 x3_1; replace p4 := eq_true p4; replace q4 := eq_true q4; have p6 : 0 ≤ (x3_1 : Int) := sqd; have q6 : x3_1 < (a0.size : Int) := sqd; have hx6 := bt_at a0 x3_1; replace p6 := eq_true p6; replace q6 := eq_true q6; go_wp2; go_roundg k1
   case measure => have := HK1.out; omega
   case rel => exact ⟨(wrap64 (x3_1 + 1)), z1, H', ⟨by have := HK1.out; omega⟩, z2⟩

/-! ### spec_l07Heights: function 35 -/
def spec_l07Heights.l0 : Nat → ByteArray → List Int → Int → Option (List Int)
  | 0, _, _, _ => none
  | k + 1, x0, x3, x4 => if x4 < (x0.size : Int) then (if 0 ≤ x4 then (if x4 < (x3.length : Int) then (if x3.length < 17592186044416 then (spec_l07Heights.l0 k x0 (x3 ++ [wrap64 ((rd x3 x4) + (((bt x0 x4) - 97) % 256))]) (wrap64 (x4 + 1))) else (none)) else (none)) else (none)) else (some x3)
def spec_l07Heights.f (k : Nat) (a0 : ByteArray) : Option (List Int) := spec_l07Heights.l0 k a0 (([0] : List Int)) 0
theorem spec_l07Heights.mono_l : ∀ k, (∀ y0 y1 y2, LeO (spec_l07Heights.l0 k y0 y1 y2) (spec_l07Heights.l0 (k + 1) y0 y1 y2))
  | 0 => fun _ _ _ r h => by simp [spec_l07Heights.l0] at h
  | k + 1 => by
   have ih0 := spec_l07Heights.mono_l k
   intros
   unfold spec_l07Heights.l0
   all_goals repeat' first | (with_reducible first | apply ih0 | exact LeO.refl _ | exact LeO.none _ | refine LeO.ite ?_ ?_ | refine LeO.bind ?_ (fun _ => ?_)) | apply ih0 | exact LeO.none _ | refine LeO.ite ?_ ?_ | refine LeO.bind ?_ (fun _ => ?_)
theorem spec_l07Heights.mono : ∀ a0 k, LeO (spec_l07Heights.f k a0) (spec_l07Heights.f (k + 1) a0) := by
  intro a0 k
  have ih0 := spec_l07Heights.mono_l k
  unfold spec_l07Heights.f
  repeat' first | (with_reducible first | apply ih0 | exact LeO.refl _ | exact LeO.none _ | refine LeO.ite ?_ ?_ | refine LeO.bind ?_ (fun _ => ?_)) | apply ih0 | exact LeO.none _ | refine LeO.ite ?_ ?_ | refine LeO.bind ?_ (fun _ => ?_)
def spec_l07Heights.T5 : Bool × List (List Nat × List Nat) := (true, [([], []), ([], []), ([], []), ([1, 2], [1, 2]), ([3], [3]), ([], []), ([], []), ([5, 6], [5, 6]), ([7], [7]), ([8], [8]), ([4, 9], [4, 9]), ([10], [10]), ([0, 11], [0, 11]), ([12, 12, 0, 1, 2, 3, 4, 5, 6, 7, 8, 9, 10, 11, 12], [0, 1, 12])])
def spec_l07Heights.B5 : List Nat := [0, 0, 0, 6, 14, 0, 0, 96, 224, 480, 1022, 2046, 4095, 8191]
theorem spec_l07Heights.tab5 : rtab .any (opsOf Tryd.f35 5) = spec_l07Heights.T5 := by kernel_rfl
theorem spec_l07Heights.bits5 : waitsOk spec_l07Heights.T5.2 spec_l07Heights.B5 = true := by kernel_rfl
set_option maxHeartbeats 8000000 in
set_option maxRecDepth 100000 in
theorem spec_l07Heights.calls (k : Nat) (a0 : ByteArray) (r : List Int) (w : World) (h : spec_l07Heights.f k a0 = some r) :
    Calls Tryd.prog 35 #[.string a0] w fun e w' => ∃ v0_ : Value, e = .returned (v0_) ∧ Kd.R (Kd.int .i64) 2 w' w.heap.size (fun _ => True) v0_ r ∧ Below w.heap.size w w' := by
 have HB := mA (Below.refl w.heap.size w); have H : (spec_l07Heights.l0 k a0 (([0] : List Int)) 0) = some r := h; clear h; obtain ⟨y101, hy101⟩ : ∃ y_ : List Int, y_ = (([0] : List Int)) := ⟨_, rfl⟩
 replace H : (spec_l07Heights.l0 k a0 y101 0) = some r := by first | (rw [hy101]; with_reducible exact H) | (have H2_ := (Option.bind_some _ _).symm.trans H; rw [hy101]; with_reducible exact H2_) | (have H2_ := (Option.bind_some _ _).symm.trans H; with_reducible exact H2_) | with_reducible exact H | (rw [hy101]; exact H) | exact H
 have Ny101 := mA hy101; clear hy101; have H' := mA H; clear H; go_enter Tryd.func35, Tryd.ntmps35; go_wp2_with (first | ((with_reducible refine gate_dst (N := 5) rfl ?_); refine Kd.R_lit (Kd.int .i64) _ 2 ?hg (N := 5) ?hd (xs := ([0] : List Int)) (inner := [.int .i64 0]) (ok := fun _ => True) (okp := fun _ => True) ?hr ?hp (fun _ hk => hk) trivial (Below.refl _ _) (Nat.le_refl _) (by simp) ?_; (case hd => rfl); (case hg => rfl); (case hr => first | (go_simp; done) | (go_simp; rfl)); (case hp => exact (Reps.one (show Kd.M (Kd.int .i64) _ _ _ 0 [.int .i64 0] from rfl) (Reps.none _ _))); intro v102 w2 ho3 hb hg_ hnew_; clear hg_ hnew_; (first | rw [← Ny101.out] at ho3 | (simp only [Int.reduceToNat] at ho3; rw [← Ny101.out] at ho3)); have HO103 := mA (Kd.R_lower ho3 (below_size z0)); replace HB := mA (below_step z0 hb); clear hb ho3)); go_loopg [3, 4] k (fun kq v3 v4 w' => ∃ (x3_1 : List Int) (x4_1 : Int), v4 = .int .i64 x4_1 ∧ Aside0 (spec_l07Heights.l0 kq a0 x3_1 x4_1 = some r) ∧ Aside0 (kq ≤ k) ∧ Aside0 (Kd.R (Kd.int .i64) 2 w' w.heap.size (fun _ => True) v3 x3_1) ∧ Aside0 (Below w.heap.size w w'))
 case atStart => exact ⟨(y101), (0), z1, H', ⟨Nat.le_refl _⟩, ⟨z3 HO103⟩, ⟨z0⟩⟩
 case round =>
  clear H'; (try clear p2); (try clear c3); obtain ⟨x3_1, x4_1, rfl, HA, HK1, HO_3, HB⟩ := hrel
  cases gk with
  | zero => exact absurd HA.out (by simp [spec_l07Heights.l0])
  | succ k1 =>
   have H := HA.out; clear HA; simp only [spec_l07Heights.l0] at H; refine sqC (x4_1 < (a0.size : Int)) (fun c4 => ?_) (fun c4 => ?_)
   ·rw [if_neg c4] at H; replace c4 := decide_eq_false c4; obtain rfl := Option.some.inj H; go_wp2; go_ret; exact ⟨_, z4, z3 HO_3, z0⟩
   rw [if_pos c4] at H; replace c4 := decide_eq_true c4; obtain ⟨c5, H⟩ := sqI H; replace c5 := decide_eq_true c5; obtain ⟨c6, H⟩ := sqI H; replace c6 := decide_eq_true c6; obtain ⟨c8, H⟩ := sqI H; have LMc8 := mA c8; clear c8; obtain ⟨y105, hy105⟩ : ∃ y_ : List Int, y_ = (x3_1 ++ [wrap64 ((rd x3_1 x4_1) + (((bt a0 x4_1) - 97) % 256))]) := ⟨_, rfl⟩
   replace H : (spec_l07Heights.l0 k1 a0 y105 (wrap64 (x4_1 + 1))) = some r := by first | (rw [hy105]; with_reducible exact H) | (have H2_ := (Option.bind_some _ _).symm.trans H; rw [hy105]; with_reducible exact H2_) | (have H2_ := (Option.bind_some _ _).symm.trans H; with_reducible exact H2_) | with_reducible exact H | (rw [hy105]; exact H) | exact H
   have Ny105 := mA hy105; clear hy105; have H' := mA H; clear H; (try go_wp2); replace HO_3 := mA (Kd.R_drew HO_3.out); replace HB := mA (below_drew1 HB.out); obtain ⟨Ao10, co10, eo10⟩ := Kd.R_slice HO_3.out; (first | subst eo10 | (injection eo10 with f1_ f2_ f3_; have f4_ := f1_.symm; have f5_ := f3_.symm; clear f1_ f2_ f3_; subst f4_; subst f5_)); have p104 : 0 ≤ (x4_1 : Int) := sqd; have q104 : x4_1 < (x3_1.length : Int) := sqd; obtain ⟨ad104, e104, hx104_0⟩ := Kd.at_int (Kd.R_reads' HO_3.out).2.2 x4_1 p104 q104
   cases e104
   replace p104 := eq_true p104; replace q104 := eq_true q104; have p7 : 0 ≤ (x4_1 : Int) := sqd; have q7 : x4_1 < (a0.size : Int) := sqd; have hx7 := bt_at a0 x4_1; replace p7 := eq_true p7; replace q7 := eq_true q7; refine start_ (n := 14) (S := fun w' => w'.cell? (ad104.add (x4_1).toNat) = some (.int .i64 (rd x3_1 x4_1))) (ds := [11, 12]) #[false, false, false, false, false, false, false, false, false, false, false, false, false, false] (by kernel_rfl) rfl rfl (hx104_0) (fun hHeld => ?_); refine with_tabW spec_l07Heights.tab5 spec_l07Heights.bits5 (fun HT_ HW_ => ?_); generalize wr.drew = w9 at HO_3 HB hx104_0 hHeld ⊢; refine sqr0 0 (some 12) ?_; refine sqr0 1 (some 13) ?_; refine sqr0 2 (some 14) ?_; refine sqr0 3 (some 15) ?_; refine sqr0 5 (some 17) ?_; refine sqr0 6 (some 18) ?_; refine sqr1 4 (some 16) ?_; refine sqr1 7 (some 19) ?_; refine sqr0 8 (some 20) ?_; refine sqr0 9 (some 21) ?_; refine sqr0 10 (some 22) ?_; refine last_ (i := 11) (N := some 23) #[true, true, true, true, true, true, true, true, true, true, true, true, false, false] rfl rfl (one_of HT_.out (by kernel_rfl)) (by decide) (fun K hK => ?_); refine value_ (w1 := ?_) (v := ?_) (by rfl) rfl ?_ ?_; rotate_left 2
   ·go_simp; constructor
    ·rfl
    ·rfl
   refine hK.out _ _ ?_; clear hK K; refine sqr2 ?_; refine last_ (i := 12) (N := some 24) #[true, true, true, true, true, true, true, true, true, true, true, true, true, false] rfl rfl (one_of HT_.out (by kernel_rfl)) (by decide) (fun K hK => ?_); refine Kd.R_append_step (Kd.int .i64) (w0 := w) w.heap.size (by rfl) (.tmp 12) (.tmp 23) 25 2 (.int .i64 0) 8 rfl Tryd.underlying25 info2 rfl (by decide) (by omega) (.slice (some ad104) x3_1.length co10) x3_1 (wrap64 ((rd x3_1 x4_1) + (((bt a0 x4_1) - 97) % 256))) [.int .i64 (wrap64 ((rd x3_1 x4_1) + (((bt a0 x4_1) - 97) % 256)))] (fun _ => True) (fun _ => False) rfl rfl ?aP (fun _ hk => hk.elim) ?aF ?aO ?aB ?aS ?aL ?_; (case aP => exact rfl); (case aB => exact z0); (case aF => exact (fun _ _ => trivial)); (case aO => exact (z3 HO_3)); (case aS => exact (below_size z0)); (case aL => have := LMc8.out; omega); intro v106 w11 ho hb hg hat; rw [← Ny105.out] at ho; replace HB := mA (hb); have HO107 := mA (ho); clear HO_3 ho hb hg hat; refine hK.out _ _ ?_; clear hK K; refine sqr2 ?_; refine sqr0 13 (some 3) ?_; refine done_ (done_of HT_.out (by kernel_rfl)) ?_; (try go_wp2); go_roundg k1
   case measure => have := HK1.out; omega
   case rel => exact ⟨(y105), (wrap64 (x4_1 + 1)), z1, H', ⟨by have := HK1.out; omega⟩, ⟨z3 HO107⟩, ⟨z0⟩⟩

/-! ### spec_HeightsOf: function 15 -/
def spec_HeightsOf.f (k : Nat) (a0 : ByteArray) : Option (List Int × Bool) := (spec_l07Is.f k a0).bind fun t108 => (if t108 = true then ((spec_l07Heights.f k a0).bind fun t109 => (some (t109, true))) else (some (([] : List Int), false)))
theorem spec_HeightsOf.mono : ∀ a0 k, LeO (spec_HeightsOf.f k a0) (spec_HeightsOf.f (k + 1) a0) := by
  intro a0 k
  unfold spec_HeightsOf.f
  repeat' first | (with_reducible first | apply spec_l07Heights.mono | apply spec_l07Is.mono | exact LeO.refl _ | exact LeO.none _ | refine LeO.ite ?_ ?_ | refine LeO.bind ?_ (fun _ => ?_)) | apply spec_l07Heights.mono | apply spec_l07Is.mono | exact LeO.none _ | refine LeO.ite ?_ ?_ | refine LeO.bind ?_ (fun _ => ?_)
set_option maxHeartbeats 8000000 in
set_option maxRecDepth 100000 in
theorem spec_HeightsOf.calls (k : Nat) (a0 : ByteArray) (r1 : List Int) (r2 : Bool) (w : World) (h : spec_HeightsOf.f k a0 = some (r1, r2)) :
    Calls Tryd.prog 15 #[.string a0] w fun e w' => ∃ v0_ : Value, e = .returned (.tuple #[v0_, .bool r2]) ∧ Kd.R (Kd.int .i64) 2 w' w.heap.size (fun _ => True) v0_ r1 ∧ Below w.heap.size w w' := by
 have HB := mA (Below.refl w.heap.size w); have H : ((spec_l07Is.f k a0).bind fun t108 => (if t108 = true then ((spec_l07Heights.f k a0).bind fun t109 => (some (t109, true))) else (some (([] : List Int), false)))) = some (r1, r2) := h; clear h; obtain ⟨t108, A2, H⟩ := sqB H; refine sqC (t108 = true) (fun c3 => ?_) (fun c3 => ?_)
 ·replace c3 := Bool.eq_false_iff.mpr c3; subst c3; rw [if_neg (show ¬ (false = true) by decide)] at H; simp only [Option.some.injEq, Prod.mk.injEq] at H; obtain ⟨rfl, rfl⟩ := H; go_enter Tryd.func15, Tryd.ntmps15; go_wp2_with (first | (refine sqG 32 (some 5) Tryd.func32 #[.string a0] (h := ?_); (with_reducible refine (spec_l07Is.calls k a0 false _ A2.out).mono ?_); rintro e w' ⟨rfl, ⟨nd, rfl⟩⟩; refine ⟨_, rfl, ?_⟩)); go_ret2; exact ⟨_, z4, by first | exact Kd.R_nil _ _ _ _ _ | exact Kd.N_nil _ _ _ _ _ | exact Kd.V_nil _ _ _ _ _ | exact Kd.Q_nil _ _ _ _ _ | exact Kd.S_nil _ _ _ _ _, z0⟩
 subst c3; rw [if_pos rfl] at H; obtain ⟨t109, A4, H⟩ := sqB H; simp only [Option.some.injEq, Prod.mk.injEq] at H; obtain ⟨rfl, rfl⟩ := H; go_enter Tryd.func15, Tryd.ntmps15; go_wp2_with (first | (refine sqG 32 (some 5) Tryd.func32 #[.string a0] (h := ?_); (with_reducible refine (spec_l07Is.calls k a0 true _ A2.out).mono ?_); rintro e w' ⟨rfl, ⟨nd, rfl⟩⟩; refine ⟨_, rfl, ?_⟩) | (refine sqG 35 (some 8) Tryd.func35 #[.string a0] (h := ?_); (with_reducible refine (spec_l07Heights.calls k a0 t109 _ A4.out).mono ?_); rintro e w5 ⟨v110, rfl, ho0, hb⟩; refine ⟨_, rfl, ?_⟩; have HO111 := mA (Kd.R_lower ho0 (below_size z0)); replace HB := mA (below_step z0 hb); (try clear hb ho0))); go_ret2; exact ⟨_, z4, z3 HO111, z0⟩

/-! ### strings_trimLeftByte: function 53 -/
def strings_trimLeftByte.l0 : Nat → ByteArray → Int → Option (ByteArray)
  | 0, _, _ => none
  | k + 1, x0, x1 => if (x0.size : Int) > 0 then (if 0 < (x0.size : Int) then (if (bt x0 0) = x1 then (if 1 ≤ (x0.size : Int) then (strings_trimLeftByte.l0 k (x0.extract 1 x0.size) x1) else (none)) else (some x0)) else (none)) else (some x0)
def strings_trimLeftByte.f (k : Nat) (a0 : ByteArray) (a1 : Int) : Option (ByteArray) := strings_trimLeftByte.l0 k a0 a1
theorem strings_trimLeftByte.mono_l : ∀ k, (∀ y0 y1, LeO (strings_trimLeftByte.l0 k y0 y1) (strings_trimLeftByte.l0 (k + 1) y0 y1))
  | 0 => fun _ _ r h => by simp [strings_trimLeftByte.l0] at h
  | k + 1 => by
   have ih0 := strings_trimLeftByte.mono_l k
   intros
   unfold strings_trimLeftByte.l0
   all_goals repeat' first | (with_reducible first | apply ih0 | exact LeO.refl _ | exact LeO.none _ | refine LeO.ite ?_ ?_ | refine LeO.bind ?_ (fun _ => ?_)) | apply ih0 | exact LeO.none _ | refine LeO.ite ?_ ?_ | refine LeO.bind ?_ (fun _ => ?_)
theorem strings_trimLeftByte.mono : ∀ a0 a1 k, LeO (strings_trimLeftByte.f k a0 a1) (strings_trimLeftByte.f (k + 1) a0 a1) := by
  intro a0 a1 k
  have ih0 := strings_trimLeftByte.mono_l k
  unfold strings_trimLeftByte.f
  repeat' first | (with_reducible first | apply ih0 | exact LeO.refl _ | exact LeO.none _ | refine LeO.ite ?_ ?_ | refine LeO.bind ?_ (fun _ => ?_)) | apply ih0 | exact LeO.none _ | refine LeO.ite ?_ ?_ | refine LeO.bind ?_ (fun _ => ?_)
set_option maxHeartbeats 8000000 in
set_option maxRecDepth 100000 in
theorem strings_trimLeftByte.calls (k : Nat) (a0 : ByteArray) (a1 : Int) (r : ByteArray) (w : World) (h : strings_trimLeftByte.f k a0 a1 = some r) :
    Calls Tryd.prog 53 #[.string a0, .int .u8 a1] w fun e w' => e = .returned (.string r) ∧ Drawn0 w w' := by
 have H : (strings_trimLeftByte.l0 k a0 a1) = some r := h; clear h; have H' := mA H; clear H; go_enter Tryd.func53, Tryd.ntmps53; go_wp2; go_loopg [0] k (fun kq v0 w' => ∃ (x0_1 : ByteArray), v0 = .string x0_1 ∧ Aside0 (strings_trimLeftByte.l0 kq x0_1 a1 = some r) ∧ Aside0 (kq ≤ k) ∧ Drawn0 w w')
 case atStart => exact ⟨(a0), z1, H', ⟨Nat.le_refl _⟩, z2⟩
 case round =>
  clear H'; (try clear p2); obtain ⟨x0_1, rfl, HA, HK1, ⟨m1, rfl⟩⟩ := hrel
  cases gk with
  | zero => exact absurd HA.out (by simp [strings_trimLeftByte.l0])
  | succ k1 =>
   have H := HA.out; clear HA; simp only [strings_trimLeftByte.l0] at H; refine sqC ((x0_1.size : Int) > 0) (fun c3 => ?_) (fun c3 => ?_)
   ·rw [if_neg c3] at H; have c3b0 := decide_eq_false c3; have c3b1 : decide (0 < x0_1.size) = false := decide_eq_false (by omega); clear c3; obtain rfl := Option.some.inj H; go_wp2; go_ret; exact ⟨z1, z2⟩
   rw [if_pos c3] at H; have c3b0 := decide_eq_true c3; have c3b1 : decide (0 < x0_1.size) = true := decide_eq_true (by omega); clear c3; obtain ⟨c4, H⟩ := sqI H; have c4b0 := decide_eq_true c4; have c4b1 : decide (0 < x0_1.size) = true := decide_eq_true (by omega); clear c4; refine sqC ((bt x0_1 0) = a1) (fun c6 => ?_) (fun c6 => ?_)
   ·rw [if_neg c6] at H; have c6b0 : ((bt x0_1 0) == a1) = false := beq_eq_false_iff_ne.mpr c6; have c6b1 : ((bt x0_1 0) != a1) = true := bne_iff_ne.mpr c6; obtain rfl := Option.some.inj H; have p5 : 0 ≤ (0 : Int) := (by omega); have q5 : 0 < x0_1.size := (by have : (0 : Int) < (x0_1.size : Int) := sqd; omega); have hx5 : ∀ h : 0 < x0_1.size, ((x0_1[0]'h).toNat : Int) = bt x0_1 0 := bt_at x0_1 0; clear p5; have qi5 : (0 < (x0_1.size : Int)) = True := eq_true (sqd); replace q5 := eq_true q5; go_wp2; go_ret; exact ⟨z1, z2⟩
   rw [if_pos c6] at H; have c6b0 : ((bt x0_1 0) == a1) = true := beq_iff_eq.mpr c6; have c6b1 : ((bt x0_1 0) != a1) = false := bne_eq_false_iff_eq.mpr c6; clear c6; obtain ⟨c7, H⟩ := sqI H; have c7b0 := eq_true c7; have c7b1 := decide_eq_true c7; clear c7; have H' := mA H; clear H; have p5 : 0 ≤ (0 : Int) := (by omega); have q5 : 0 < x0_1.size := (by have : (0 : Int) < (x0_1.size : Int) := sqd; omega); have hx5 : ∀ h : 0 < x0_1.size, ((x0_1[0]'h).toNat : Int) = bt x0_1 0 := bt_at x0_1 0; clear p5; have qi5 : (0 < (x0_1.size : Int)) = True := eq_true (sqd); replace q5 := eq_true q5; go_wp2; go_roundg k1
   case measure => have := HK1.out; omega
   case rel => exact ⟨(x0_1.extract 1 x0_1.size), z1, H', ⟨by have := HK1.out; omega⟩, z2⟩

/-! ### strings_trimRightByte: function 54 -/
def strings_trimRightByte.l0 : Nat → ByteArray → Int → Option (ByteArray)
  | 0, _, _ => none
  | k + 1, x0, x1 => if (x0.size : Int) > 0 then (if 0 ≤ (wrap64 ((x0.size : Int) - 1)) then (if (wrap64 ((x0.size : Int) - 1)) < (x0.size : Int) then (if (bt x0 (wrap64 ((x0.size : Int) - 1))) = x1 then (if (wrap64 ((x0.size : Int) - 1)) ≤ (x0.size : Int) then (strings_trimRightByte.l0 k (x0.extract 0 ((wrap64 ((x0.size : Int) - 1)) : Int).toNat) x1) else (none)) else (some x0)) else (none)) else (none)) else (some x0)
def strings_trimRightByte.f (k : Nat) (a0 : ByteArray) (a1 : Int) : Option (ByteArray) := strings_trimRightByte.l0 k a0 a1
theorem strings_trimRightByte.mono_l : ∀ k, (∀ y0 y1, LeO (strings_trimRightByte.l0 k y0 y1) (strings_trimRightByte.l0 (k + 1) y0 y1))
  | 0 => fun _ _ r h => by simp [strings_trimRightByte.l0] at h
  | k + 1 => by
   have ih0 := strings_trimRightByte.mono_l k
   intros
   unfold strings_trimRightByte.l0
   all_goals repeat' first | (with_reducible first | apply ih0 | exact LeO.refl _ | exact LeO.none _ | refine LeO.ite ?_ ?_ | refine LeO.bind ?_ (fun _ => ?_)) | apply ih0 | exact LeO.none _ | refine LeO.ite ?_ ?_ | refine LeO.bind ?_ (fun _ => ?_)
theorem strings_trimRightByte.mono : ∀ a0 a1 k, LeO (strings_trimRightByte.f k a0 a1) (strings_trimRightByte.f (k + 1) a0 a1) := by
  intro a0 a1 k
  have ih0 := strings_trimRightByte.mono_l k
  unfold strings_trimRightByte.f
  repeat' first | (with_reducible first | apply ih0 | exact LeO.refl _ | exact LeO.none _ | refine LeO.ite ?_ ?_ | refine LeO.bind ?_ (fun _ => ?_)) | apply ih0 | exact LeO.none _ | refine LeO.ite ?_ ?_ | refine LeO.bind ?_ (fun _ => ?_)
set_option maxHeartbeats 8000000 in
set_option maxRecDepth 100000 in
theorem strings_trimRightByte.calls (k : Nat) (a0 : ByteArray) (a1 : Int) (r : ByteArray) (w : World) (h : strings_trimRightByte.f k a0 a1 = some r) :
    Calls Tryd.prog 54 #[.string a0, .int .u8 a1] w fun e w' => e = .returned (.string r) ∧ Drawn0 w w' := by
 have H : (strings_trimRightByte.l0 k a0 a1) = some r := h; clear h; have H' := mA H; clear H; go_enter Tryd.func54, Tryd.ntmps54; go_wp2; go_loopg [0] k (fun kq v0 w' => ∃ (x0_1 : ByteArray), v0 = .string x0_1 ∧ Aside0 (strings_trimRightByte.l0 kq x0_1 a1 = some r) ∧ Aside0 (kq ≤ k) ∧ Drawn0 w w')
 case atStart => exact ⟨(a0), z1, H', ⟨Nat.le_refl _⟩, z2⟩
 case round =>
  clear H'; (try clear p2); obtain ⟨x0_1, rfl, HA, HK1, ⟨m1, rfl⟩⟩ := hrel
  cases gk with
  | zero => exact absurd HA.out (by simp [strings_trimRightByte.l0])
  | succ k1 =>
   have H := HA.out; clear HA; simp only [strings_trimRightByte.l0] at H; refine sqC ((x0_1.size : Int) > 0) (fun c3 => ?_) (fun c3 => ?_)
   ·rw [if_neg c3] at H; have c3b0 := decide_eq_false c3; have c3b1 : decide (0 < x0_1.size) = false := decide_eq_false (by omega); clear c3; obtain rfl := Option.some.inj H; go_wp2; go_ret; exact ⟨z1, z2⟩
   rw [if_pos c3] at H; have c3b0 := decide_eq_true c3; have c3b1 : decide (0 < x0_1.size) = true := decide_eq_true (by omega); clear c3; obtain ⟨ji4, hji4⟩ : ∃ j_ : Int, (wrap64 ((x0_1.size : Int) - 1)) = j_ := ⟨_, rfl⟩
   replace H : (if 0 ≤ (ji4) then (if (ji4) < (x0_1.size : Int) then (if (bt x0_1 (ji4)) = a1 then (if (ji4) ≤ (x0_1.size : Int) then (strings_trimRightByte.l0 k1 (x0_1.extract 0 ((ji4) : Int).toNat) a1) else (none)) else (some x0_1)) else (none)) else (none)) = some r := by first | (rw [hji4] at H; exact H) | (simp only [hji4] at H ⊢; exact H)
   have hji4w : (IntKind.i64.wrap ((x0_1.size : Int) - 1)) = ji4 := (i64_w _).trans hji4; obtain ⟨c5, H⟩ := sqI H; replace c5 := decide_eq_true c5; obtain ⟨c6, H⟩ := sqI H; replace c6 := decide_eq_true c6; refine sqC ((bt x0_1 (ji4)) = a1) (fun c8 => ?_) (fun c8 => ?_)
   ·rw [if_neg c8] at H; have c8b0 : ((bt x0_1 (ji4)) == a1) = false := beq_eq_false_iff_ne.mpr c8; have c8b1 : ((bt x0_1 (ji4)) != a1) = true := bne_iff_ne.mpr c8; obtain rfl := Option.some.inj H; have p7 : 0 ≤ ((ji4) : Int) := sqd; have q7 : (ji4) < (x0_1.size : Int) := sqd; have hx7 := bt_at x0_1 (ji4); replace p7 := eq_true p7; replace q7 := eq_true q7; go_wp2; go_ret; exact ⟨by first | rfl | (simp; done) | (simp only [← hji4] <;> (first | rfl | simp)) | (simp [*]; done), z2⟩
   rw [if_pos c8] at H; have c8b0 : ((bt x0_1 (ji4)) == a1) = true := beq_iff_eq.mpr c8; have c8b1 : ((bt x0_1 (ji4)) != a1) = false := bne_eq_false_iff_eq.mpr c8; clear c8; have c9b0 := eq_true (sqd : 0 ≤ (ji4)); obtain ⟨c10, H⟩ := sqI H; have c10b0 := eq_true c10; have c10b1 := decide_eq_true c10; clear c10; have H' := mA H; clear H; have p7 : 0 ≤ ((ji4) : Int) := sqd; have q7 : (ji4) < (x0_1.size : Int) := sqd; have hx7 := bt_at x0_1 (ji4); replace p7 := eq_true p7; replace q7 := eq_true q7; go_wp2; go_roundg k1
   case measure => have := HK1.out; omega
   case rel => exact ⟨(x0_1.extract 0 ((ji4) : Int).toNat), (by first | rfl | (simp; done) | (simp only [← hji4] <;> (first | rfl | simp)) | (simp [*]; done)), H', ⟨by have := HK1.out; omega⟩, z2⟩

-- NOT PRINTED: function 55 (strings_makeASCIISet)

-- NOT PRINTED: function 65 (strings_asciiSet_contains)

-- NOT PRINTED: function 56 (strings_trimLeftASCII)

-- NOT PRINTED: function 57 (strings_trimRightASCII)

-- NOT PRINTED: function 69 (utf8_decodeRuneInStringSlow)

-- NOT PRINTED: function 66 (utf8_DecodeRuneInString)

-- NOT PRINTED: function 77 (bytealg_IndexByteString)

-- NOT PRINTED: function 76 (stringslite_IndexByte)

-- NOT PRINTED: function 72 (strings_IndexByte)

/-! ### utf8_ValidRune: function 73 -/
def utf8_ValidRune.j0 : Nat → Int → Bool → Option (Bool)
  | 0, _, _ => none
  | k + 1, x0, x3 => if x3 = true then (some true) else (if 57343 < x0 then (if x0 ≤ 1114111 then (some true) else (some false)) else (some false))
def utf8_ValidRune.f (k : Nat) (a0 : Int) : Option (Bool) := if 0 ≤ a0 then (utf8_ValidRune.j0 k a0 (decide (a0 < 55296))) else (utf8_ValidRune.j0 k a0 false)
theorem utf8_ValidRune.mono_l : ∀ k, (∀ y0 y1, LeO (utf8_ValidRune.j0 k y0 y1) (utf8_ValidRune.j0 (k + 1) y0 y1))
  | 0 => fun _ _ r h => by simp [utf8_ValidRune.j0] at h
  | k + 1 => by
   have ih0 := utf8_ValidRune.mono_l k
   intros
   unfold utf8_ValidRune.j0
   all_goals repeat' first | (with_reducible first | apply ih0 | exact LeO.refl _ | exact LeO.none _ | refine LeO.ite ?_ ?_ | refine LeO.bind ?_ (fun _ => ?_)) | apply ih0 | exact LeO.none _ | refine LeO.ite ?_ ?_ | refine LeO.bind ?_ (fun _ => ?_)
theorem utf8_ValidRune.mono : ∀ a0 k, LeO (utf8_ValidRune.f k a0) (utf8_ValidRune.f (k + 1) a0) := by
  intro a0 k
  have ih0 := utf8_ValidRune.mono_l k
  unfold utf8_ValidRune.f
  repeat' first | (with_reducible first | apply ih0 | exact LeO.refl _ | exact LeO.none _ | refine LeO.ite ?_ ?_ | refine LeO.bind ?_ (fun _ => ?_)) | apply ih0 | exact LeO.none _ | refine LeO.ite ?_ ?_ | refine LeO.bind ?_ (fun _ => ?_)
set_option maxHeartbeats 8000000 in
set_option maxRecDepth 100000 in
theorem utf8_ValidRune.calls (k : Nat) (a0 : Int) (r : Bool) (w : World) (h : utf8_ValidRune.f k a0 = some r) :
    Calls Tryd.prog 73 #[.int .i32 a0] w fun e w' => e = .returned (.bool r) ∧ Drawn0 w w' := by
 have H : (if 0 ≤ a0 then (utf8_ValidRune.j0 k a0 (decide (a0 < 55296))) else (utf8_ValidRune.j0 k a0 false)) = some r := h; clear h; have HC2 := mA H; clear H; go_enter Tryd.func73, Tryd.ntmps73
 go_upto_region 1 with (fail)
 go_cut [3] (fun v3 wc => ∃ (kq : Nat) (x3_1 : Bool), v3 = .bool x3_1 ∧ Aside0 (utf8_ValidRune.j0 kq a0 x3_1 = some r) ∧ Aside0 (kq ≤ k) ∧ Drawn0 w wc)
 case first =>
  have H := HC2.out; clear HC2; refine sqC (0 ≤ a0) (fun c3 => ?_) (fun c3 => ?_)
  ·rw [if_neg c3] at H; have c3b0 := decide_eq_false c3; clear c3; (first | rw [c3b0] | (simp only [i64_w, i32_w]; rw [c3b0]) | skip); have H' := mA H; clear H; go_wp2; go_meet
   case rel => exact ⟨_, (false), z1, H', ⟨by first | omega | exact Nat.le_refl _⟩, z2⟩
  rw [if_pos c3] at H; have c3b0 := decide_eq_true c3; clear c3; (first | rw [c3b0] | (simp only [i64_w, i32_w]; rw [c3b0]) | skip); have H' := mA H; clear H; go_wp2; go_meet
  case rel => exact ⟨_, (decide (a0 < 55296)), z1, H', ⟨by first | omega | exact Nat.le_refl _⟩, z2⟩
 case rest =>
  clear HC2; (try clear p2); (try clear c3); (try clear c3b0); obtain ⟨kq, x3_1, rfl, HA, HJ1, ⟨mc1, rfl⟩⟩ := hcut
  cases kq with
  | zero => exact absurd HA.out (by simp [utf8_ValidRune.j0])
  | succ kj1 =>
   have H := HA.out; clear HA; simp only [utf8_ValidRune.j0] at H; by_cases c4 : x3_1 = true
   ·subst c4; rw [if_pos rfl] at H; obtain rfl := Option.some.inj H; go_wp2; go_ret; exact ⟨z1, z2⟩
   replace c4 := Bool.eq_false_iff.mpr c4; subst c4; rw [if_neg (show ¬ (false = true) by decide)] at H; refine sqC (57343 < a0) (fun c5 => ?_) (fun c5 => ?_)
   ·rw [if_neg c5] at H; replace c5 := decide_eq_false c5; obtain rfl := Option.some.inj H; go_wp2; go_ret; exact ⟨z1, z2⟩
   rw [if_pos c5] at H; replace c5 := decide_eq_true c5; by_cases c6 : a0 ≤ 1114111
   ·rw [if_pos c6] at H; replace c6 := decide_eq_true c6; obtain rfl := Option.some.inj H; go_wp2; go_ret; exact ⟨z1, z2⟩
   rw [if_neg c6] at H; replace c6 := decide_eq_false c6; obtain rfl := Option.some.inj H; go_wp2; go_ret; exact ⟨z1, z2⟩

/-! ### bytealg_Cutover: function 74 -/
def bytealg_Cutover.f (a0 : Int) : Option (Int) := some (wrap64 (Int.tdiv (wrap64 (a0 + 16)) 8))
set_option maxHeartbeats 8000000 in
set_option maxRecDepth 100000 in
theorem bytealg_Cutover.calls (a0 : Int) (r : Int) (w : World) (h : bytealg_Cutover.f a0 = some r) :
    Calls Tryd.prog 74 #[.int .i64 a0] w fun e w' => e = .returned (.int .i64 r) ∧ Drawn0 w w' := by
 have H : (some (wrap64 (Int.tdiv (wrap64 (a0 + 16)) 8))) = some r := h; clear h; obtain rfl := Option.some.inj H; go_enter Tryd.func74, Tryd.ntmps74; go_wp2; go_ret; exact ⟨z1, z2⟩

-- NOT PRINTED: function 75 (bytealg_IndexString)

-- NOT PRINTED: function 70 (strings_IndexRune)

-- NOT PRINTED: function 67 (strings_ContainsRune)

-- NOT PRINTED: function 58 (strings_trimLeftUnicode)

/-! ### utf8_RuneStart: function 71 -/
def utf8_RuneStart.f (a0 : Int) : Option (Bool) := some ((Go.bits .and .u8 a0 192) != 128)
set_option maxHeartbeats 8000000 in
set_option maxRecDepth 100000 in
theorem utf8_RuneStart.calls (a0 : Int) (r : Bool) (w : World) (h : utf8_RuneStart.f a0 = some r) :
    Calls Tryd.prog 71 #[.int .u8 a0] w fun e w' => e = .returned (.bool r) ∧ Drawn0 w w' := by
 have H : (some ((Go.bits .and .u8 a0 192) != 128)) = some r := h; clear h; obtain rfl := Option.some.inj H; go_enter Tryd.func71, Tryd.ntmps71; go_wp2; go_ret; exact ⟨z1, z2⟩

-- NOT PRINTED: function 68 (utf8_DecodeLastRuneInString)

-- NOT PRINTED: function 59 (strings_trimRightUnicode)

end Go.Proofs.YtkmghekffehimaaDoor.PFnExactHeightsOf
