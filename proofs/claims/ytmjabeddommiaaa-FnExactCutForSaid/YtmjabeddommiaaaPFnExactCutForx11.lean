/- Written by this session's program (wip/tool/xprint.py) over the kit's printer. -/
import Derived.Test.YtmjabeddommiaaaPFnExactCutForx0
import Derived.Test.YtmjabeddommiaaaPFnExactCutForx9
namespace Go.Proofs.Ytmjabeddommiaaa.PFnExactCutFor
open Go.RowKit Go.Proofs.YtmjabeddommiaaaW.PrintWords Go.Proofs.YtmjabeddommiaaaW.PrintLast Go.Proofs.YtmjabeddommiaaaW.PrintMore
attribute [local go_sem] max2_int min2_int max_two min_two max_three min_three max_four min_four   -- for this text's walks alone
set_option linter.unusedVariables false
set_option linter.unusedSimpArgs false

-- told with its function values: function 116 (impl_Values_each)

-- told with its function values: function 117 (impl_Values_floors_1)

/-! ### impl_Values_floors_1: function 117 -/
def impl_Values_floors_1.f (a0 : Int) (a1_0 : Int) (l1_1 : List Int) : Option (Int) := (impl_floor.f a0 a1_0).bind fun t302 => (some t302)
set_option maxHeartbeats 8000000 in
set_option maxRecDepth 100000 in
theorem impl_Values_floors_1.calls (a0 : Int) (gv1_0_ : Nat) (a1_0 : Int) (A1_1 : Option Addr) (c1_1 : Nat) (l1_1 : List Int) (r : Int) (w : World) (hbx1_0_ : w.heap[gv1_0_]? = some (.cells #[.int .i64 a1_0, .slice A1_1 l1_1.length c1_1] 86 (0, 0))) (hr1_1 : Kd.C (Kd.int .i64) w A1_1 l1_1.length l1_1) (hc1_1 : l1_1.length ≤ c1_1) (h : impl_Values_floors_1.f a0 a1_0 l1_1 = some r) :
    Calls Try.prog 117 #[.int .i64 a0, .pointer (some ⟨gv1_0_, 0, none⟩)] w fun e w' => e = .returned (.int .i64 r) ∧ Below w.heap.size w w' := by
 have HR1_1 := mA hr1_1; have HC1_1 := mA hc1_1; clear hr1_1 hc1_1; have BK46 := mA hbx1_0_; clear hbx1_0_; have HB := mA (Below.refl w.heap.size w); have H : ((impl_floor.f a0 a1_0).bind fun t302 => (some t302)) = some r := h; clear h; obtain ⟨t302, A3, H⟩ := sqB H; obtain rfl := Option.some.inj H; have hcz4_0 := sqZ0 BK46; have hcz4_1 := sqZ1 BK46; have hfz4_0 := blk_frozen BK46.out 0; have hfz4_1 := blk_frozen BK46.out 1; go_enter Try.func117, Try.ntmps117; go_wp2_with (first | (refine sqG 114 (some 7) Try.func114 #[.int .i64 a0, .int .i64 a1_0] (h := ?_); (with_reducible refine (impl_floor.calls a0 a1_0 t302 _ A3.out).mono ?_); rintro e w' ⟨rfl, ⟨nd, rfl⟩⟩; refine ⟨_, rfl, ?_⟩)); go_ret; exact ⟨zq6, zq1⟩

/-! ### impl_Values_each_impl_Values_floors_1: function 116 -/
def impl_Values_each_impl_Values_floors_1.l0 : Nat → List Int → List Int → Int → Int → Int → List Int → Option (List Int)
  | 0, _, _, _, _, _, _ => none
  | k + 1, x5, x10, x11, x12, x47000, x47001 => if x12 < x11 then (if 0 ≤ x12 then (if x12 < (x10.length : Int) then ((impl_Values_floors_1.f (rd x10 x12) x47000 x47001).bind fun t308 => (if x5.length < 17592186044416 then (impl_Values_each_impl_Values_floors_1.l0 k (x5 ++ [t308]) x10 x11 (wrap64 (x12 + 1)) x47000 x47001) else (none))) else (none)) else (none)) else (some x5)
def impl_Values_each_impl_Values_floors_1.f (k : Nat) (a0_0 : Int) (l0_1 : List Int) (a1_0 : Int) (l1_1 : List Int) : Option (List Int) := impl_Values_each_impl_Values_floors_1.l0 k (([] : List Int)) l0_1 (l0_1.length : Int) 0 a1_0 l1_1
theorem impl_Values_each_impl_Values_floors_1.mono_l : ∀ k, (∀ y0 y1 y2 y3 y4 y5, LeO (impl_Values_each_impl_Values_floors_1.l0 k y0 y1 y2 y3 y4 y5) (impl_Values_each_impl_Values_floors_1.l0 (k + 1) y0 y1 y2 y3 y4 y5))
  | 0 => fun _ _ _ _ _ _ r h => by simp [impl_Values_each_impl_Values_floors_1.l0] at h
  | k + 1 => by
   have ih0 := impl_Values_each_impl_Values_floors_1.mono_l k
   intros
   unfold impl_Values_each_impl_Values_floors_1.l0
   all_goals repeat' first | (with_reducible first | apply ih0 | exact LeO.refl _ | exact LeO.none _ | refine LeO.ite ?_ ?_ | refine LeO.bind ?_ (fun _ => ?_)) | apply ih0 | exact LeO.none _ | refine LeO.ite ?_ ?_ | refine LeO.bind ?_ (fun _ => ?_)
theorem impl_Values_each_impl_Values_floors_1.mono : ∀ a0 a1 a2 a3 k, LeO (impl_Values_each_impl_Values_floors_1.f k a0 a1 a2 a3) (impl_Values_each_impl_Values_floors_1.f (k + 1) a0 a1 a2 a3) := by
  intro a0 a1 a2 a3 k
  have ih0 := impl_Values_each_impl_Values_floors_1.mono_l k
  unfold impl_Values_each_impl_Values_floors_1.f
  repeat' first | (with_reducible first | apply ih0 | exact LeO.refl _ | exact LeO.none _ | refine LeO.ite ?_ ?_ | refine LeO.bind ?_ (fun _ => ?_)) | apply ih0 | exact LeO.none _ | refine LeO.ite ?_ ?_ | refine LeO.bind ?_ (fun _ => ?_)
set_option maxHeartbeats 8000000 in
set_option maxRecDepth 100000 in
theorem impl_Values_each_impl_Values_floors_1.calls (k : Nat) (a0_0 : Int) (A0_1 : Option Addr) (c0_1 : Nat) (l0_1 : List Int) (gv1_0_ : Nat) (a1_0 : Int) (A1_1 : Option Addr) (c1_1 : Nat) (l1_1 : List Int) (r : List Int) (w : World) (hr0_1 : Kd.C (Kd.int .i64) w A0_1 l0_1.length l0_1) (hc0_1 : l0_1.length ≤ c0_1) (hbx1_0_ : w.heap[gv1_0_]? = some (.cells #[.int .i64 a1_0, .slice A1_1 l1_1.length c1_1] 86 (0, 0))) (hr1_1 : Kd.C (Kd.int .i64) w A1_1 l1_1.length l1_1) (hc1_1 : l1_1.length ≤ c1_1) (h : impl_Values_each_impl_Values_floors_1.f k a0_0 l0_1 a1_0 l1_1 = some r) :
    Calls Try.prog 116 #[.agg #[.int .i64 a0_0, .slice A0_1 l0_1.length c0_1], .func (.func 117) #[] #[.pointer (some ⟨gv1_0_, 0, none⟩)]] w fun e w' => ∃ v0_ : Value, e = .returned (v0_) ∧ Kd.R (Kd.int .i64) 2 w' w.heap.size (fun _ => True) v0_ r ∧ Below w.heap.size w w' := by
 have hu86 := Try.underlying86; have HR0_1 := mA hr0_1; have HC0_1 := mA hc0_1; clear hr0_1 hc0_1; have HR1_1 := mA hr1_1; have HC1_1 := mA hc1_1; clear hr1_1 hc1_1; have BK46 := mA hbx1_0_; clear hbx1_0_; have HB := mA (Below.refl w.heap.size w); have H : (impl_Values_each_impl_Values_floors_1.l0 k (([] : List Int)) l0_1 (l0_1.length : Int) 0 a1_0 l1_1) = some r := h; clear h; obtain ⟨y304, hy304⟩ : ∃ y_ : List Int, y_ = (([] : List Int)) := ⟨_, rfl⟩
 replace H : (impl_Values_each_impl_Values_floors_1.l0 k y304 l0_1 (l0_1.length : Int) 0 a1_0 l1_1) = some r := by first | (rw [hy304]; with_reducible exact H) | (have H2_ := (Option.bind_some _ _).symm.trans H; rw [hy304]; with_reducible exact H2_) | (have H2_ := (Option.bind_some _ _).symm.trans H; with_reducible exact H2_) | with_reducible exact H | (rw [hy304]; exact H) | exact H
 have Ny304 := mA hy304; clear hy304; have H' := mA H; clear H; go_enter Try.func116, Try.ntmps116; go_wp2_with (first | (refine sqX 2 #[.int .i64 a0_0, .slice A0_1 l0_1.length c0_1] 86 ?_; intro gb303 hg w3 hbox hb; have BK303 := mA (hbox); have GW303 := mA ((zq9 : w.heap.size ≤ gb303)); have GE303 := mA ((zq9 : w.heap.size ≤ gb303)); replace HB := mA (below_step zq1 hb); have NB46_303 := mA ((by rw [hg]; exact Nat.ne_of_lt (blk_lt (g := gv1_0_) (o := .cells #[.int .i64 a1_0, .slice A1_1 l1_1.length c1_1] 86 (0, 0)) (zq2 BK46)) : gv1_0_ ≠ gb303)); have NB303_46 := mA ((by rw [hg]; exact Nat.ne_of_gt (blk_lt (g := gv1_0_) (o := .cells #[.int .i64 a1_0, .slice A1_1 l1_1.length c1_1] 86 (0, 0)) (zq2 BK46)) : gb303 ≠ gv1_0_)); replace BK46 := mA (blk_below (g := gv1_0_) (o := .cells #[.int .i64 a1_0, .slice A1_1 l1_1.length c1_1] 86 (0, 0)) (zq2 BK46) hb); clear hb hbox hg) | ((with_reducible refine gate_dst (N := 8) rfl ?_); refine Kd.R_lit (Kd.int .i64) _ 2 ?hg (N := 8) ?hd (xs := ([] : List Int)) (inner := []) (ok := fun _ => True) (okp := fun _ => True) ?hr ?hp (fun _ hk => hk) trivial (Below.refl _ _) (Nat.le_refl _) (by simp) ?_; (case hd => rfl); (case hg => rfl); (case hr => exact zq12); (case hp => exact (Reps.none _ _)); intro v305 w4 ho5 hb hg_ hnew_; clear hg_ hnew_; (first | rw [← Ny304.out] at ho5 | (simp only [Int.reduceToNat] at ho5; rw [← Ny304.out] at ho5)); have HO306 := mA (Kd.R_lower ho5 (below_size zq1)); replace BK46 := mA (blk_below (g := gv1_0_) (o := .cells #[.int .i64 a1_0, .slice A1_1 l1_1.length c1_1] 86 (0, 0)) (zq2 BK46) hb); replace BK303 := mA (blk_below (g := gb303) (o := .cells #[.int .i64 a0_0, .slice A0_1 l0_1.length c0_1] 86 (0, 0)) (zq2 BK303) hb); replace HB := mA (below_step zq1 hb); clear hb ho5; have hnb6 := NB303_46.out; have hnc6 := NB46_303.out; have hcz7_0 := sqZ0 BK303; have hcz7_1 := sqZ1 BK303; have hfz7_0 := blk_frozen BK303.out 0; have hfz7_1 := blk_frozen BK303.out 1))
 go_loopg [5, 12] k (fun kq v5 v12 w' => ∃ (x5_1 : List Int) (x12_1 : Int), v12 = .int .i64 x12_1 ∧ Aside0 (impl_Values_each_impl_Values_floors_1.l0 kq x5_1 l0_1 (l0_1.length : Int) x12_1 a1_0 l1_1 = some r) ∧ Aside0 (kq ≤ k) ∧ Aside0 (Kd.R (Kd.int .i64) 2 w' w.heap.size (fun _ => True) v5 x5_1) ∧ Aside0 (w'.heap[gv1_0_]? = some (.cells #[.int .i64 a1_0, (.slice A1_1 l1_1.length c1_1)] 86 (0, 0))) ∧ Aside0 (w'.heap[gb303]? = some (.cells #[.int .i64 a0_0, (.slice A0_1 l0_1.length c0_1)] 86 (0, 0))) ∧ Aside0 (Below w.heap.size w w'))
 case atStart => exact ⟨(y304), (0), zq3, H', ⟨Nat.le_refl _⟩, ⟨zq0 HO306⟩, ⟨zq2 BK46⟩, ⟨zq2 BK303⟩, ⟨zq1⟩⟩
 case round =>
  clear H'; (try clear c1); (try clear p2); (try clear c6); (try clear hcz7_0); (try clear hcz7_1); (try clear hfz7_0); (try clear hfz7_1); obtain ⟨x5_1, x12_1, rfl, HA, HK1, HO_5, BK46, BK303, HB⟩ := hrel
  cases gk with
  | zero => exact absurd HA.out (by simp [impl_Values_each_impl_Values_floors_1.l0])
  | succ k1 =>
   have H := HA.out; clear HA; simp only [impl_Values_each_impl_Values_floors_1.l0] at H; refine sqC (x12_1 < (l0_1.length : Int)) (fun c8 => ?_) (fun c8 => ?_)
   ·rw [if_neg c8] at H; replace c8 := decide_eq_false c8; obtain rfl := Option.some.inj H; go_wp2; go_ret; exact ⟨_, zq6, zq0 HO_5, zq1⟩
   rw [if_pos c8] at H; replace c8 := decide_eq_true c8; obtain ⟨c9, H⟩ := sqI H; have c9b0 : decide (0 ≤ x12_1) = true := decide_eq_true c9; clear c9; obtain ⟨c10, H⟩ := sqI H; replace c10 := decide_eq_true c10; obtain ⟨t308, A11, H⟩ := sqB H; obtain ⟨c12, H⟩ := sqI H; have LMc12 := mA c12; clear c12; obtain ⟨y309, hy309⟩ : ∃ y_ : List Int, y_ = (x5_1 ++ [t308]) := ⟨_, rfl⟩
   replace H : (impl_Values_each_impl_Values_floors_1.l0 k1 y309 l0_1 (l0_1.length : Int) (wrap64 (x12_1 + 1)) a1_0 l1_1) = some r := by first | (rw [hy309]; with_reducible exact H) | (have H2_ := (Option.bind_some _ _).symm.trans H; rw [hy309]; with_reducible exact H2_) | (have H2_ := (Option.bind_some _ _).symm.trans H; with_reducible exact H2_) | with_reducible exact H | (rw [hy309]; exact H) | exact H
   have Ny309 := mA hy309; clear hy309; have H' := mA H; clear H; have p307 : 0 ≤ (x12_1 : Int) := sqd; have q307 : x12_1 < (l0_1.length : Int) := sqd; obtain ⟨ad307, e307, hx307_0⟩ := Kd.at_int HR0_1.out x12_1 p307 q307
   cases e307
   replace hx307_0 := sqh HB hx307_0; replace p307 := eq_true p307; replace q307 := eq_true q307; go_wp2_with (first | (go_at_call 117; (with_reducible refine (impl_Values_floors_1.calls (rd l0_1 x12_1) gv1_0_ a1_0 A1_1 c1_1 l1_1 t308 _ ?s1 ?s2 ?s3 A11.out).mono ?_); (case s1 => first | (with_reducible exact BK46.out) | (exact by (with_reducible repeat (first | refine blk_drewN ?_ _ | refine blk_drew ?_ | refine blk_alloc ?_ _)); exact BK46.out) | ((with_reducible repeat (first | refine blk_drewN ?_ _ | refine blk_drew ?_ | refine blk_alloc ?_ _)); exact BK46.out) | (exact BK46.out)); (case s2 => repeat (first | exact (Kd.C_below HR1_1.out HB.out) | (with_reducible refine Kd.C_alloc ?_ _) | (with_reducible refine Kd.C_drewN ?_ _) | (with_reducible refine Kd.C_drew ?_))); (case s3 => exact HC1_1.out); rintro e w13 ⟨rfl, hb⟩; replace HO_5 := mA (Kd.R_below (zq0 HO_5) hb); replace BK46 := mA (blk_below (g := gv1_0_) (o := .cells #[.int .i64 a1_0, .slice A1_1 l1_1.length c1_1] 86 (0, 0)) (zq2 BK46) hb); replace BK303 := mA (blk_below (g := gb303) (o := .cells #[.int .i64 a0_0, .slice (some ad307) l0_1.length c0_1] 86 (0, 0)) (zq2 BK303) hb); replace HB := mA (below_step zq1 hb); (try clear hb)) | ((with_reducible refine gate_builtin (b := .append) (xs := #[.tmp 16, .tmp 20]) rfl ?_); at_builtin; refine Kd.R_append (Kd.int .i64) (w0 := w) w.heap.size rfl (.tmp 16) (.tmp 20) 26 2 (.int .i64 0) 8 rfl Try.underlying26 info2 rfl (by decide) (by omega) u5 x5_1 t308 [.int .i64 t308] (fun _ => True) (fun _ => False) rfl rfl ?aP (fun _ hk => hk.elim) ?aF ?aO ?aB ?aS ?aL ?_; (case aP => exact rfl); (case aB => exact zq1); (case aF => exact (fun _ _ => trivial)); (case aO => exact (zq0 HO_5)); (case aS => exact (below_size zq1)); (case aL => have := LMc12.out; omega); intro v310 w14 ho hb hg hat; rw [← Ny309.out] at ho; replace BK46 := mA (blk_grown (g := gv1_0_) (o := .cells #[.int .i64 a1_0, .slice A1_1 l1_1.length c1_1] 86 (0, 0)) (zq2 BK46) hg (Kd.R_ne HO_5.out BK46.out (by decide))); replace BK303 := mA (blk_grown (g := gb303) (o := .cells #[.int .i64 a0_0, .slice (some ad307) l0_1.length c0_1] 86 (0, 0)) (zq2 BK303) hg (Kd.R_ne HO_5.out BK303.out (by decide))); replace HB := mA (hb); have HO311 := mA (ho); clear HO_5 ho hb hg hat)); go_roundg k1
   case measure => have := HK1.out; omega
   case rel => exact ⟨(y309), (wrap64 (x12_1 + 1)), zq3, H', ⟨by have := HK1.out; omega⟩, ⟨zq0 HO311⟩, ⟨zq2 BK46⟩, ⟨zq2 BK303⟩, ⟨zq1⟩⟩

/-! ### impl_Values_floors: function 100 -/
def impl_Values_floors.f (k : Nat) (a0_0 : Int) (l0_1 : List Int) : Option (List Int) := (impl_Values_each_impl_Values_floors_1.f k a0_0 l0_1 a0_0 l0_1).bind fun t313 => (some t313)
theorem impl_Values_floors.mono : ∀ a0 a1 k, LeO (impl_Values_floors.f k a0 a1) (impl_Values_floors.f (k + 1) a0 a1) := by
  intro a0 a1 k
  unfold impl_Values_floors.f
  repeat' first | (with_reducible first | apply impl_Values_each_impl_Values_floors_1.mono | exact LeO.refl _ | exact LeO.none _ | refine LeO.ite ?_ ?_ | refine LeO.bind ?_ (fun _ => ?_)) | apply impl_Values_each_impl_Values_floors_1.mono | exact LeO.none _ | refine LeO.ite ?_ ?_ | refine LeO.bind ?_ (fun _ => ?_)
set_option maxHeartbeats 8000000 in
set_option maxRecDepth 100000 in
theorem impl_Values_floors.calls (k : Nat) (a0_0 : Int) (A0_1 : Option Addr) (c0_1 : Nat) (l0_1 : List Int) (r : List Int) (w : World) (hr0_1 : Kd.C (Kd.int .i64) w A0_1 l0_1.length l0_1) (hc0_1 : l0_1.length ≤ c0_1) (h : impl_Values_floors.f k a0_0 l0_1 = some r) :
    Calls Try.prog 100 #[.agg #[.int .i64 a0_0, .slice A0_1 l0_1.length c0_1]] w fun e w' => ∃ v0_ : Value, e = .returned (v0_) ∧ Kd.R (Kd.int .i64) 2 w' w.heap.size (fun _ => True) v0_ r ∧ Below w.heap.size w w' := by
 have hu86 := Try.underlying86; have HR0_1 := mA hr0_1; have HC0_1 := mA hc0_1; clear hr0_1 hc0_1; have HB := mA (Below.refl w.heap.size w); have H : ((impl_Values_each_impl_Values_floors_1.f k a0_0 l0_1 a0_0 l0_1).bind fun t313 => (some t313)) = some r := h; clear h; obtain ⟨t313, A2, H⟩ := sqB H; obtain rfl := Option.some.inj H; go_enter Try.func100, Try.ntmps100; go_wp2_with (first | (refine sqX 1 #[.int .i64 a0_0, .slice A0_1 l0_1.length c0_1] 86 ?_; intro gb312 hg w3 hbox hb; have BK312 := mA (hbox); have GW312 := mA ((zq8 : w.heap.size ≤ gb312)); have GE312 := mA ((zq8 : w.heap.size ≤ gb312)); replace HB := mA (below_step zq5 hb); clear hb hbox hg; have hcz4_0 := sqZ0 BK312; have hcz4_1 := sqZ1 BK312; have hfz4_0 := blk_frozen BK312.out 0; have hfz4_1 := blk_frozen BK312.out 1) | (refine sqG 116 (some 5) Try.func116 #[.agg #[.int .i64 a0_0, .slice A0_1 l0_1.length c0_1], .func (.func 117) #[] #[.pointer (some ⟨gb312, 0, none⟩)]] (h := ?_); (with_reducible refine (impl_Values_each_impl_Values_floors_1.calls k a0_0 _ _ l0_1 gb312 a0_0 A0_1 c0_1 l0_1 t313 _ ?s1 ?s2 ?s3 ?s4 ?s5 A2.out).mono ?_); (case s1 => repeat (first | exact (Kd.C_below HR0_1.out HB.out) | (with_reducible refine Kd.C_alloc ?_ _) | (with_reducible refine Kd.C_drewN ?_ _) | (with_reducible refine Kd.C_drew ?_))); (case s2 => exact HC0_1.out); (case s3 => first | (with_reducible exact BK312.out) | (exact by (with_reducible repeat (first | refine blk_drewN ?_ _ | refine blk_drew ?_ | refine blk_alloc ?_ _)); exact BK312.out) | ((with_reducible repeat (first | refine blk_drewN ?_ _ | refine blk_drew ?_ | refine blk_alloc ?_ _)); exact BK312.out) | (exact BK312.out)); (case s4 => repeat (first | exact (Kd.C_below HR0_1.out HB.out) | (with_reducible refine Kd.C_alloc ?_ _) | (with_reducible refine Kd.C_drewN ?_ _) | (with_reducible refine Kd.C_drew ?_))); (case s5 => exact HC0_1.out); rintro e w5 ⟨v314, rfl, ho0, hb⟩; refine ⟨_, rfl, ?_⟩; have HO315 := mA (Kd.R_lower ho0 (below_size zq1)); replace BK312 := mA (blk_below (g := gb312) (o := .cells #[.int .i64 a0_0, .slice A0_1 l0_1.length c0_1] 86 (0, 0)) (zq2 BK312) hb); replace HB := mA (below_step zq1 hb); (try clear hb ho0))); go_ret; exact ⟨_, zq6, zq0 HO315, zq1⟩

/-! ### slices_Index_int64_int64: function 118 -/
def slices_Index_int64_int64.l0 : Nat → List Int → Int → Int → Int → Option (Int)
  | 0, _, _, _, _ => none
  | k + 1, x0, x1, x7, x8 => if x8 < x7 then (if 0 ≤ x8 then (if x8 < (x0.length : Int) then (if x1 = (rd x0 x8) then (some x8) else (slices_Index_int64_int64.l0 k x0 x1 x7 (wrap64 (x8 + 1)))) else (none)) else (none)) else (some (-1))
def slices_Index_int64_int64.f (k : Nat) (l0 : List Int) (a1 : Int) : Option (Int) := slices_Index_int64_int64.l0 k l0 a1 (l0.length : Int) 0
theorem slices_Index_int64_int64.mono_l : ∀ k, (∀ y0 y1 y2 y3, LeO (slices_Index_int64_int64.l0 k y0 y1 y2 y3) (slices_Index_int64_int64.l0 (k + 1) y0 y1 y2 y3))
  | 0 => fun _ _ _ _ r h => by simp [slices_Index_int64_int64.l0] at h
  | k + 1 => by
   have ih0 := slices_Index_int64_int64.mono_l k
   intros
   unfold slices_Index_int64_int64.l0
   all_goals repeat' first | (with_reducible first | apply ih0 | exact LeO.refl _ | exact LeO.none _ | refine LeO.ite ?_ ?_ | refine LeO.bind ?_ (fun _ => ?_)) | apply ih0 | exact LeO.none _ | refine LeO.ite ?_ ?_ | refine LeO.bind ?_ (fun _ => ?_)
theorem slices_Index_int64_int64.mono : ∀ a0 a1 k, LeO (slices_Index_int64_int64.f k a0 a1) (slices_Index_int64_int64.f (k + 1) a0 a1) := by
  intro a0 a1 k
  have ih0 := slices_Index_int64_int64.mono_l k
  unfold slices_Index_int64_int64.f
  repeat' first | (with_reducible first | apply ih0 | exact LeO.refl _ | exact LeO.none _ | refine LeO.ite ?_ ?_ | refine LeO.bind ?_ (fun _ => ?_)) | apply ih0 | exact LeO.none _ | refine LeO.ite ?_ ?_ | refine LeO.bind ?_ (fun _ => ?_)
set_option maxHeartbeats 8000000 in
set_option maxRecDepth 100000 in
theorem slices_Index_int64_int64.calls (k : Nat) (A0 : Option Addr) (c0 : Nat) (l0 : List Int) (a1 : Int) (r : Int) (w : World) (hr0 : Kd.C (Kd.int .i64) w A0 l0.length l0) (hc0 : l0.length ≤ c0) (h : slices_Index_int64_int64.f k l0 a1 = some r) :
    Calls Try.prog 118 #[.slice A0 l0.length c0, .int .i64 a1] w fun e w' => e = .returned (.int .i64 r) ∧ Drawn0 w w' := by
 have HR0 := mA hr0; have HC0 := mA hc0; clear hr0 hc0; have H : (slices_Index_int64_int64.l0 k l0 a1 (l0.length : Int) 0) = some r := h; clear h; have H' := mA H; clear H; go_enter Try.func118, Try.ntmps118; go_wp2; go_loopg [8] k (fun kq v8 w' => ∃ (x8_1 : Int), v8 = .int .i64 x8_1 ∧ Aside0 (slices_Index_int64_int64.l0 kq l0 a1 (l0.length : Int) x8_1 = some r) ∧ Aside0 (kq ≤ k) ∧ Drawn0 w w')
 case atStart => exact ⟨(0), zq3, H', ⟨Nat.le_refl _⟩, zq7⟩
 case round =>
  clear H'; (try clear c1); (try clear p2); obtain ⟨x8_1, rfl, HA, HK1, ⟨m1, rfl⟩⟩ := hrel
  cases gk with
  | zero => exact absurd HA.out (by simp [slices_Index_int64_int64.l0])
  | succ k1 =>
   have H := HA.out; clear HA; simp only [slices_Index_int64_int64.l0] at H; refine sqC (x8_1 < (l0.length : Int)) (fun c3 => ?_) (fun c3 => ?_)
   ·rw [if_neg c3] at H; replace c3 := decide_eq_false c3; obtain rfl := Option.some.inj H; go_wp2; go_ret; exact ⟨zq3, zq7⟩
   rw [if_pos c3] at H; replace c3 := decide_eq_true c3; obtain ⟨c4, H⟩ := sqI H; have c4b0 : decide (0 ≤ x8_1) = true := decide_eq_true c4; clear c4; obtain ⟨c5, H⟩ := sqI H; replace c5 := decide_eq_true c5; by_cases c6 : a1 = (rd l0 x8_1)
   ·rw [if_pos c6] at H; have c6b0 : (a1 == (rd l0 x8_1)) = true := beq_iff_eq.mpr c6; have c6b1 : (a1 != (rd l0 x8_1)) = false := bne_eq_false_iff_eq.mpr c6; clear c6; obtain rfl := Option.some.inj H; have p316 : 0 ≤ (x8_1 : Int) := sqd; have q316 : x8_1 < (l0.length : Int) := sqd; obtain ⟨ad316, e316, hx316_0⟩ := Kd.at_int HR0.out x8_1 p316 q316
    cases e316
    replace p316 := eq_true p316; replace q316 := eq_true q316; go_wp2; go_ret; exact ⟨zq3, zq7⟩
   rw [if_neg c6] at H; have c6b0 : (a1 == (rd l0 x8_1)) = false := beq_eq_false_iff_ne.mpr c6; have c6b1 : (a1 != (rd l0 x8_1)) = true := bne_iff_ne.mpr c6; have H' := mA H; clear H; have p316 : 0 ≤ (x8_1 : Int) := sqd; have q316 : x8_1 < (l0.length : Int) := sqd; obtain ⟨ad316, e316, hx316_0⟩ := Kd.at_int HR0.out x8_1 p316 q316
   cases e316
   replace p316 := eq_true p316; replace q316 := eq_true q316; go_wp2; go_roundg k1
   case measure => have := HK1.out; omega
   case rel => exact ⟨(wrap64 (x8_1 + 1)), zq3, H', ⟨by have := HK1.out; omega⟩, zq7⟩

/-! ### slices_Contains_int64_int64: function 101 -/
def slices_Contains_int64_int64.f (k : Nat) (l0 : List Int) (a1 : Int) : Option (Bool) := (slices_Index_int64_int64.f k l0 a1).bind fun t317 => (some (decide (t317 ≥ 0)))
theorem slices_Contains_int64_int64.mono : ∀ a0 a1 k, LeO (slices_Contains_int64_int64.f k a0 a1) (slices_Contains_int64_int64.f (k + 1) a0 a1) := by
  intro a0 a1 k
  unfold slices_Contains_int64_int64.f
  repeat' first | (with_reducible first | apply slices_Index_int64_int64.mono | exact LeO.refl _ | exact LeO.none _ | refine LeO.ite ?_ ?_ | refine LeO.bind ?_ (fun _ => ?_)) | apply slices_Index_int64_int64.mono | exact LeO.none _ | refine LeO.ite ?_ ?_ | refine LeO.bind ?_ (fun _ => ?_)
set_option maxHeartbeats 8000000 in
set_option maxRecDepth 100000 in
theorem slices_Contains_int64_int64.calls (k : Nat) (A0 : Option Addr) (c0 : Nat) (l0 : List Int) (a1 : Int) (r : Bool) (w : World) (hr0 : Kd.C (Kd.int .i64) w A0 l0.length l0) (hc0 : l0.length ≤ c0) (h : slices_Contains_int64_int64.f k l0 a1 = some r) :
    Calls Try.prog 101 #[.slice A0 l0.length c0, .int .i64 a1] w fun e w' => e = .returned (.bool r) ∧ Drawn0 w w' := by
 have HR0 := mA hr0; have HC0 := mA hc0; clear hr0 hc0; have H : ((slices_Index_int64_int64.f k l0 a1).bind fun t317 => (some (decide (t317 ≥ 0)))) = some r := h; clear h; obtain ⟨t317, A3, H⟩ := sqB H; obtain rfl := Option.some.inj H; go_enter Try.func101, Try.ntmps101; go_wp2_with (first | (refine sqG 118 (some 7) Try.func118 #[.slice A0 l0.length c0, .int .i64 a1] (h := ?_); (with_reducible refine (slices_Index_int64_int64.calls k _ _ l0 a1 t317 _ ?s1 ?s2 A3.out).mono ?_); (case s1 => repeat (first | exact HR0.out | (with_reducible refine Kd.C_alloc ?_ _) | (with_reducible refine Kd.C_drewN ?_ _) | (with_reducible refine Kd.C_drew ?_))); (case s2 => exact HC0.out); rintro e w' ⟨rfl, ⟨nd, rfl⟩⟩; refine ⟨_, rfl, ?_⟩)); go_ret; exact ⟨zq3, zq7⟩

end Go.Proofs.Ytmjabeddommiaaa.PFnExactCutFor
