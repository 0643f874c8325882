/- Written by this session's program (wip/tool/xprint.py) over the kit's printer. -/
import Derived.Test.YtlhpejabdmejbaaPFnTicketsx0
import Derived.Test.YtlhpejabdmejbaaPFnTicketsx1
import Derived.Test.YtlhpejabdmejbaaPFnTicketsx2
namespace Go.Proofs.Ytlhpejabdmejbaa.PFnTickets
open Go.RowKit Go.Proofs.YtlhpejabdmejbaaW.PrintWords Go.Proofs.YtlhpejabdmejbaaW.PrintLast Go.Proofs.YtlhpejabdmejbaaW.PrintMore
attribute [local go_sem] max2_int min2_int max_two min_two max_three min_three max_four min_four   -- for this text's walks alone
set_option linter.unusedVariables false
set_option linter.unusedSimpArgs false

/-! ### impl_running: function 71 -/
def impl_running.l0 : Nat → List Int → Int → List Int → Int → Int → Option (List Int)
  | 0, _, _, _, _, _ => none
  | k + 1, x3, x4, x8, x9, x10 => if x10 < x9 then (if 0 ≤ x10 then (if x10 < (x8.length : Int) then (if x3.length < 17592186044416 then (impl_running.l0 k (x3 ++ [wrap64 (x4 + (rd x8 x10))]) (wrap64 (x4 + (rd x8 x10))) x8 x9 (wrap64 (x10 + 1))) else (none)) else (none)) else (none)) else (some x3)
def impl_running.f (k : Nat) (l0 : List Int) : Option (List Int) := impl_running.l0 k (([] : List Int)) 0 l0 (l0.length : Int) 0
theorem impl_running.mono_l : ∀ k, (∀ y0 y1 y2 y3 y4, LeO (impl_running.l0 k y0 y1 y2 y3 y4) (impl_running.l0 (k + 1) y0 y1 y2 y3 y4))
  | 0 => fun _ _ _ _ _ r h => by simp [impl_running.l0] at h
  | k + 1 => by
   have ih0 := impl_running.mono_l k
   intros
   unfold impl_running.l0
   all_goals repeat' first | (with_reducible first | apply ih0 | exact LeO.refl _ | exact LeO.none _ | refine LeO.ite ?_ ?_ | refine LeO.bind ?_ (fun _ => ?_)) | apply ih0 | exact LeO.none _ | refine LeO.ite ?_ ?_ | refine LeO.bind ?_ (fun _ => ?_)
theorem impl_running.mono : ∀ a0 k, LeO (impl_running.f k a0) (impl_running.f (k + 1) a0) := by
  intro a0 k
  have ih0 := impl_running.mono_l k
  unfold impl_running.f
  repeat' first | (with_reducible first | apply ih0 | exact LeO.refl _ | exact LeO.none _ | refine LeO.ite ?_ ?_ | refine LeO.bind ?_ (fun _ => ?_)) | apply ih0 | exact LeO.none _ | refine LeO.ite ?_ ?_ | refine LeO.bind ?_ (fun _ => ?_)
set_option maxHeartbeats 8000000 in
set_option maxRecDepth 100000 in
theorem impl_running.calls (k : Nat) (A0 : Option Addr) (c0 : Nat) (l0 : List Int) (r : List Int) (w : World) (hr0 : Kd.C (Kd.int .i64) w A0 l0.length l0) (hc0 : l0.length ≤ c0) (h : impl_running.f k l0 = some r) :
    Calls Try.prog 71 #[.slice A0 l0.length c0] w fun e w' => ∃ v0_ : Value, e = .returned (v0_) ∧ Kd.R (Kd.int .i64) 2 w' w.heap.size (fun _ => True) v0_ r ∧ Below w.heap.size w w' := by
 have HR0 := mA hr0; have HC0 := mA hc0; clear hr0 hc0; have HB := mA (Below.refl w.heap.size w); have H : (impl_running.l0 k (([] : List Int)) 0 l0 (l0.length : Int) 0) = some r := h; clear h; obtain ⟨y152, hy152⟩ : ∃ y_ : List Int, y_ = (([] : List Int)) := ⟨_, rfl⟩
 replace H : (impl_running.l0 k y152 0 l0 (l0.length : Int) 0) = some r := by first | (rw [hy152]; with_reducible exact H) | (have H2_ := (Option.bind_some _ _).symm.trans H; rw [hy152]; with_reducible exact H2_) | (have H2_ := (Option.bind_some _ _).symm.trans H; with_reducible exact H2_) | with_reducible exact H | (rw [hy152]; exact H) | exact H
 have Ny152 := mA hy152; clear hy152; have H' := mA H; clear H; go_enter Try.func71, Try.ntmps71; go_wp2_with (first | ((with_reducible refine gate_dst (N := 7) rfl ?_); refine Kd.R_lit (Kd.int .i64) _ 2 ?hg (N := 7) ?hd (xs := ([] : List Int)) (inner := []) (ok := fun _ => True) (okp := fun _ => True) ?hr ?hp (fun _ hk => hk) trivial (Below.refl _ _) (Nat.le_refl _) (by simp) ?_; (case hd => rfl); (case hg => rfl); (case hr => exact zq5); (case hp => exact (Reps.none _ _)); intro v153 w2 ho3 hb hg_ hnew_; clear hg_ hnew_; (first | rw [← Ny152.out] at ho3 | (simp only [Int.reduceToNat] at ho3; rw [← Ny152.out] at ho3)); have HO154 := mA (Kd.R_lower ho3 (below_size zq7)); replace HB := mA (below_step zq7 hb); clear hb ho3)); go_loopg [3, 4, 10] k (fun kq v3 v4 v10 w' => ∃ (x3_1 : List Int) (x4_1 : Int) (x10_1 : Int), v4 = .int .i64 x4_1 ∧ v10 = .int .i64 x10_1 ∧ Aside0 (impl_running.l0 kq x3_1 x4_1 l0 (l0.length : Int) x10_1 = some r) ∧ Aside0 (kq ≤ k) ∧ Aside0 (Kd.R (Kd.int .i64) 2 w' w.heap.size (fun _ => True) v3 x3_1) ∧ Aside0 (Below w.heap.size w w'))
 case atStart => exact ⟨(y152), (0), (0), zq3, zq3, H', ⟨Nat.le_refl _⟩, ⟨zq2 HO154⟩, ⟨zq7⟩⟩
 case round =>
  clear H'; (try clear p2); obtain ⟨x3_1, x4_1, x10_1, rfl, rfl, HA, HK1, HO_3, HB⟩ := hrel
  cases gk with
  | zero => exact absurd HA.out (by simp [impl_running.l0])
  | succ k1 =>
   have H := HA.out; clear HA; simp only [impl_running.l0] at H; refine sqC (x10_1 < (l0.length : Int)) (fun c4 => ?_) (fun c4 => ?_)
   ·rw [if_neg c4] at H; replace c4 := decide_eq_false c4; obtain rfl := Option.some.inj H; go_wp2; go_ret; exact ⟨_, zq6, zq2 HO_3, zq7⟩
   rw [if_pos c4] at H; replace c4 := decide_eq_true c4; obtain ⟨c5, H⟩ := sqI H; replace c5 := decide_eq_true c5; obtain ⟨c6, H⟩ := sqI H; replace c6 := decide_eq_true c6; obtain ⟨c7, H⟩ := sqI H; have LMc7 := mA c7; clear c7; obtain ⟨y156, hy156⟩ : ∃ y_ : List Int, y_ = (x3_1 ++ [wrap64 (x4_1 + (rd l0 x10_1))]) := ⟨_, rfl⟩
   replace H : (impl_running.l0 k1 y156 (wrap64 (x4_1 + (rd l0 x10_1))) l0 (l0.length : Int) (wrap64 (x10_1 + 1))) = some r := by first | (rw [hy156]; with_reducible exact H) | (have H2_ := (Option.bind_some _ _).symm.trans H; rw [hy156]; with_reducible exact H2_) | (have H2_ := (Option.bind_some _ _).symm.trans H; with_reducible exact H2_) | with_reducible exact H | (rw [hy156]; exact H) | exact H
   have Ny156 := mA hy156; clear hy156; have H' := mA H; clear H; have p155 : 0 ≤ (x10_1 : Int) := sqd; have q155 : x10_1 < (l0.length : Int) := sqd; obtain ⟨ad155, e155, hx155_0⟩ := Kd.at_int HR0.out x10_1 p155 q155
   cases e155
   replace hx155_0 := sqh HB hx155_0; replace p155 := eq_true p155; replace q155 := eq_true q155; go_wp2_with (first | ((with_reducible refine gate_builtin (b := .append) (xs := #[.tmp 17, .tmp 19]) rfl ?_); at_builtin; refine Kd.R_append (Kd.int .i64) (w0 := w) w.heap.size rfl (.tmp 17) (.tmp 19) 22 2 (.int .i64 0) 8 rfl Try.underlying22 info2 rfl (by decide) (by omega) u3 x3_1 (wrap64 (x4_1 + (rd l0 x10_1))) [.int .i64 (wrap64 (x4_1 + (rd l0 x10_1)))] (fun _ => True) (fun _ => False) rfl rfl ?aP (fun _ hk => hk.elim) ?aF ?aO ?aB ?aS ?aL ?_; (case aP => exact rfl); (case aB => exact zq7); (case aF => exact (fun _ _ => trivial)); (case aO => exact (zq2 HO_3)); (case aS => exact (below_size zq7)); (case aL => have := LMc7.out; omega); intro v157 w8 ho hb hg hat; rw [← Ny156.out] at ho; replace HB := mA (hb); have HO158 := mA (ho); clear HO_3 ho hb hg hat)); go_roundg k1
   case measure => have := HK1.out; omega
   case rel => exact ⟨(y156), (wrap64 (x4_1 + (rd l0 x10_1))), (wrap64 (x10_1 + 1)), zq3, zq3, H', ⟨by have := HK1.out; omega⟩, ⟨zq2 HO158⟩, ⟨zq7⟩⟩

-- told with its function values: function 72 (impl_DrawFrom_1)

/-! ### slices_Clone_int64_int64: function 73 -/
-- given by hand
-- INFO 2
def slices_Clone_int64_int64.f (l0 : List Int) : Option (List Int) := (some (([] : List Int) : List Int)).bind fun y153 => (if y153.length + l0.length < 17592186044416 then (some (y153 ++ l0)) else (none))
set_option maxHeartbeats 8000000 in
set_option maxRecDepth 100000 in
theorem slices_Clone_int64_int64.calls (A0 : Option Addr) (c0 : Nat) (l0 : List Int) (r : List Int) (w : World) (hr0 : Kd.C (Kd.int .i64) w A0 l0.length l0) (hc0 : l0.length ≤ c0) (h : slices_Clone_int64_int64.f l0 = some r) :
    Calls Try.prog 73 #[.slice A0 l0.length c0] w fun e w' => ∃ v0_ : Value, e = .returned (v0_) ∧ Kd.R (Kd.int .i64) 2 w' w.heap.size (fun _ => True) v0_ r ∧ Below w.heap.size w w' := by
 have H : ((some (([] : List Int) : List Int)).bind fun y153 => (if y153.length + l0.length < 17592186044416 then (some (y153 ++ l0)) else (none))) = some r := h; clear h
 have qT : ∀ (w : World) (a : Option Addr) (n c : Nat), (binOp .eql 22 (.slice a n c) (.slice none 0 0)).run Try.prog w = .ok (.bool a.isNone) w := fun w a n c => Lib.run_eql_slice_nil w _ _ a n c 0 0 Try.underlying22
 cases A0 with
 | none =>
  have hl : l0 = [] := by
   cases l0 with
   | nil => rfl
   | cons x xs =>
    obtain ⟨ad, hx, _⟩ := hr0.2.2 (by simp)
    cases hx
  subst hl
  have e : r = [] := by
   have H2 : (some ([] : List Int)) = some r := by simpa using H
   exact (Option.some.inj H2).symm
  subst e; have HB := mA (Below.refl w.heap.size w); go_enter Try.func73, Try.ntmps73; go_wp2; go_ret; exact ⟨_, rfl, Kd.R_nil _ _ _ _ _, zq7⟩
 | some a0 =>
  have HR0 := mA hr0; have HC0 := mA hc0; clear hr0 hc0; have HB := mA (Below.refl w.heap.size w); obtain ⟨y153, hy153⟩ : ∃ y_ : List Int, y_ = (([] : List Int)) := ⟨_, rfl⟩
  replace H : (if y153.length + l0.length < 17592186044416 then (some (y153 ++ l0)) else (none)) = some r := by rw [hy153]; exact H
  have Ny153 := mA hy153; clear hy153; obtain ⟨c2, H⟩ := sqI H; have LMc2 := mA c2; clear c2; obtain ⟨y156, hy156⟩ : ∃ y_ : List Int, y_ = (y153 ++ l0) := ⟨_, rfl⟩
  replace H : (some y156) = some r := by rw [hy156]; exact H
  have Ny156 := mA hy156; clear hy156; obtain rfl := Option.some.inj H; go_enter Try.func73, Try.ntmps73; go_wp2_with (first | ((with_reducible refine gate_dst (N := 5) rfl ?_); refine Kd.R_lit (Kd.int .i64) _ 2 ?hg (N := 5) ?hd (xs := ([] : List Int)) (inner := []) (ok := fun _ => True) (okp := fun _ => True) ?hr ?hp (fun _ hk => hk) trivial (Below.refl _ _) (Nat.le_refl _) (by simp) ?_; (case hd => rfl); (case hg => rfl); (case hr => exact zq5); (case hp => exact (Reps.none _ _)); intro v154 w3 ho4 hb hg_ hnew_; clear hg_ hnew_; (first | rw [← Ny153.out] at ho4 | (simp only [Int.reduceToNat] at ho4; rw [← Ny153.out] at ho4)); have HO155 := mA (Kd.R_lower ho4 (below_size zq7)); replace HB := mA (below_step zq7 hb); clear hb ho4) | ((with_reducible refine gate_builtin (b := .append) (xs := #[.tmp 5, .tmp 6]) rfl ?_); at_builtin; refine Kd.R_append_rows (Kd.int .i64) (w0 := w) w.heap.size rfl (.tmp 5) (.tmp 6) 22 2 (.int .i64 0) 8 rfl Try.underlying22 info2 rfl (by decide) (by omega) v154 y153 l0 _ _ _ (fun _ => True) (fun _ => False) rfl rfl ?aO ?aR (fun _ _ h => h) (fun _ h => h.elim) ?aF ?aB ?aS ?aL ?_; (case aR => repeat (first | exact (Kd.C_below HR0.out HB.out) | (with_reducible refine Kd.C_alloc ?_ _) | (with_reducible refine Kd.C_drewN ?_ _) | (with_reducible refine Kd.C_drew ?_))); (case aB => exact zq7); (case aF => exact (fun _ _ => trivial)); (case aO => exact (zq2 HO155)); (case aS => exact (below_size zq7)); (case aL => have := LMc2.out; omega); intro v157 w5 ho hb hg hat; rw [← Ny156.out] at ho; replace HB := mA (hb); have HO158 := mA (ho); clear HO155 ho hb hg hat)); go_ret; exact ⟨_, zq6, zq2 HO158, zq7⟩

/-! ### impl_DrawFrom_1: function 72 -/
def impl_DrawFrom_1.f (a0 : Int) (a1_0 : Int) : Option (Bool) := some (decide (a1_0 < a0))
set_option maxHeartbeats 8000000 in
set_option maxRecDepth 100000 in
theorem impl_DrawFrom_1.calls (a0 : Int) (gv1_0_ : Nat) (a1_0 : Int) (r : Bool) (w : World) (hbx1_0_ : w.heap[gv1_0_]? = some (.cells #[.int .i64 a1_0] 2 (0, 0))) (h : impl_DrawFrom_1.f a0 a1_0 = some r) :
    Calls Try.prog 72 #[.int .i64 a0, .pointer (some ⟨gv1_0_, 0, none⟩)] w fun e w' => e = .returned (.bool r) ∧ Below w.heap.size w w' := by
 have BK46 := mA hbx1_0_; clear hbx1_0_; have HB := mA (Below.refl w.heap.size w); have H : (some (decide (a1_0 < a0))) = some r := h; clear h; obtain rfl := Option.some.inj H; have hcz3_0 := sqZ0 BK46; have hfz3_0 := blk_frozen BK46.out 0; go_enter Try.func72, Try.ntmps72; go_wp2; go_ret; exact ⟨zq6, zq1⟩

/-! ### slices_IndexFunc_int64_int64_impl_DrawFrom_1: function 70 -/
def slices_IndexFunc_int64_int64_impl_DrawFrom_1.l0 : Nat → List Int → Int → Int → Int → Option (Int)
  | 0, _, _, _, _ => none
  | k + 1, x0, x7, x8, x47000 => if x8 < x7 then (if 0 ≤ x8 then (if x8 < (x0.length : Int) then ((impl_DrawFrom_1.f (rd x0 x8) x47000).bind fun t160 => (if t160 = true then (some x8) else (slices_IndexFunc_int64_int64_impl_DrawFrom_1.l0 k x0 x7 (wrap64 (x8 + 1)) x47000))) else (none)) else (none)) else (some (-1))
def slices_IndexFunc_int64_int64_impl_DrawFrom_1.f (k : Nat) (l0 : List Int) (a1_0 : Int) : Option (Int) := slices_IndexFunc_int64_int64_impl_DrawFrom_1.l0 k l0 (l0.length : Int) 0 a1_0
theorem slices_IndexFunc_int64_int64_impl_DrawFrom_1.mono_l : ∀ k, (∀ y0 y1 y2 y3, LeO (slices_IndexFunc_int64_int64_impl_DrawFrom_1.l0 k y0 y1 y2 y3) (slices_IndexFunc_int64_int64_impl_DrawFrom_1.l0 (k + 1) y0 y1 y2 y3))
  | 0 => fun _ _ _ _ r h => by simp [slices_IndexFunc_int64_int64_impl_DrawFrom_1.l0] at h
  | k + 1 => by
   have ih0 := slices_IndexFunc_int64_int64_impl_DrawFrom_1.mono_l k
   intros
   unfold slices_IndexFunc_int64_int64_impl_DrawFrom_1.l0
   all_goals repeat' first | (with_reducible first | apply ih0 | exact LeO.refl _ | exact LeO.none _ | refine LeO.ite ?_ ?_ | refine LeO.bind ?_ (fun _ => ?_)) | apply ih0 | exact LeO.none _ | refine LeO.ite ?_ ?_ | refine LeO.bind ?_ (fun _ => ?_)
theorem slices_IndexFunc_int64_int64_impl_DrawFrom_1.mono : ∀ a0 a1 k, LeO (slices_IndexFunc_int64_int64_impl_DrawFrom_1.f k a0 a1) (slices_IndexFunc_int64_int64_impl_DrawFrom_1.f (k + 1) a0 a1) := by
  intro a0 a1 k
  have ih0 := slices_IndexFunc_int64_int64_impl_DrawFrom_1.mono_l k
  unfold slices_IndexFunc_int64_int64_impl_DrawFrom_1.f
  repeat' first | (with_reducible first | apply ih0 | exact LeO.refl _ | exact LeO.none _ | refine LeO.ite ?_ ?_ | refine LeO.bind ?_ (fun _ => ?_)) | apply ih0 | exact LeO.none _ | refine LeO.ite ?_ ?_ | refine LeO.bind ?_ (fun _ => ?_)
set_option maxHeartbeats 8000000 in
set_option maxRecDepth 100000 in
theorem slices_IndexFunc_int64_int64_impl_DrawFrom_1.calls (k : Nat) (A0 : Option Addr) (c0 : Nat) (l0 : List Int) (gv1_0_ : Nat) (a1_0 : Int) (r : Int) (w : World) (hr0 : Kd.C (Kd.int .i64) w A0 l0.length l0) (hc0 : l0.length ≤ c0) (hbx1_0_ : w.heap[gv1_0_]? = some (.cells #[.int .i64 a1_0] 2 (0, 0))) (h : slices_IndexFunc_int64_int64_impl_DrawFrom_1.f k l0 a1_0 = some r) :
    Calls Try.prog 70 #[.slice A0 l0.length c0, .func (.func 72) #[] #[.pointer (some ⟨gv1_0_, 0, none⟩)]] w fun e w' => e = .returned (.int .i64 r) ∧ Below w.heap.size w w' := by
 have HR0 := mA hr0; have HC0 := mA hc0; clear hr0 hc0; have BK46 := mA hbx1_0_; clear hbx1_0_; have HB := mA (Below.refl w.heap.size w); have H : (slices_IndexFunc_int64_int64_impl_DrawFrom_1.l0 k l0 (l0.length : Int) 0 a1_0) = some r := h; clear h; have H' := mA H; clear H; go_enter Try.func70, Try.ntmps70; go_wp2; go_loopg [8] k (fun kq v8 w' => ∃ (x8_1 : Int), v8 = .int .i64 x8_1 ∧ Aside0 (slices_IndexFunc_int64_int64_impl_DrawFrom_1.l0 kq l0 (l0.length : Int) x8_1 a1_0 = some r) ∧ Aside0 (kq ≤ k) ∧ Aside0 (w'.heap[gv1_0_]? = some (.cells #[.int .i64 a1_0] 2 (0, 0))) ∧ Aside0 (Below w.heap.size w w'))
 case atStart => exact ⟨(0), zq3, H', ⟨Nat.le_refl _⟩, ⟨zq0 BK46⟩, ⟨zq1⟩⟩
 case round =>
  clear H'; (try clear p2); obtain ⟨x8_1, rfl, HA, HK1, BK46, HB⟩ := hrel
  cases gk with
  | zero => exact absurd HA.out (by simp [slices_IndexFunc_int64_int64_impl_DrawFrom_1.l0])
  | succ k1 =>
   have H := HA.out; clear HA; simp only [slices_IndexFunc_int64_int64_impl_DrawFrom_1.l0] at H; refine sqC (x8_1 < (l0.length : Int)) (fun c3 => ?_) (fun c3 => ?_)
   ·rw [if_neg c3] at H; replace c3 := decide_eq_false c3; obtain rfl := Option.some.inj H; go_wp2; go_ret; exact ⟨zq6, zq1⟩
   rw [if_pos c3] at H; replace c3 := decide_eq_true c3; obtain ⟨c4, H⟩ := sqI H; replace c4 := decide_eq_true c4; obtain ⟨c5, H⟩ := sqI H; replace c5 := decide_eq_true c5; obtain ⟨t160, A6, H⟩ := sqB H; by_cases c7 : t160 = true
   ·subst c7; rw [if_pos rfl] at H; obtain rfl := Option.some.inj H; have p159 : 0 ≤ (x8_1 : Int) := sqd; have q159 : x8_1 < (l0.length : Int) := sqd; obtain ⟨ad159, e159, hx159_0⟩ := Kd.at_int HR0.out x8_1 p159 q159
    cases e159
    replace hx159_0 := sqh HB hx159_0; replace p159 := eq_true p159; replace q159 := eq_true q159; go_wp2_with (first | (go_at_call 72; (with_reducible refine (impl_DrawFrom_1.calls (rd l0 x8_1) gv1_0_ a1_0 true _ ?s1 A6.out).mono ?_); (case s1 => first | (with_reducible exact BK46.out) | (exact by (with_reducible repeat (first | refine blk_drewN ?_ _ | refine blk_drew ?_ | refine blk_alloc ?_ _)); exact BK46.out) | ((with_reducible repeat (first | refine blk_drewN ?_ _ | refine blk_drew ?_ | refine blk_alloc ?_ _)); exact BK46.out) | (exact BK46.out)); rintro e w8 ⟨rfl, hb⟩; replace BK46 := mA (blk_below (g := gv1_0_) (o := .cells #[.int .i64 a1_0] 2 (0, 0)) (zq0 BK46) hb); replace HB := mA (below_step zq1 hb); (try clear hb))); go_ret; exact ⟨zq6, zq1⟩
   replace c7 := Bool.eq_false_iff.mpr c7; subst c7; rw [if_neg (show ¬ (false = true) by decide)] at H; have H' := mA H; clear H; have p159 : 0 ≤ (x8_1 : Int) := sqd; have q159 : x8_1 < (l0.length : Int) := sqd; obtain ⟨ad159, e159, hx159_0⟩ := Kd.at_int HR0.out x8_1 p159 q159
   cases e159
   replace hx159_0 := sqh HB hx159_0; replace p159 := eq_true p159; replace q159 := eq_true q159; go_wp2_with (first | (go_at_call 72; (with_reducible refine (impl_DrawFrom_1.calls (rd l0 x8_1) gv1_0_ a1_0 false _ ?s1 A6.out).mono ?_); (case s1 => first | (with_reducible exact BK46.out) | (exact by (with_reducible repeat (first | refine blk_drewN ?_ _ | refine blk_drew ?_ | refine blk_alloc ?_ _)); exact BK46.out) | ((with_reducible repeat (first | refine blk_drewN ?_ _ | refine blk_drew ?_ | refine blk_alloc ?_ _)); exact BK46.out) | (exact BK46.out)); rintro e w9 ⟨rfl, hb⟩; replace BK46 := mA (blk_below (g := gv1_0_) (o := .cells #[.int .i64 a1_0] 2 (0, 0)) (zq0 BK46) hb); replace HB := mA (below_step zq1 hb); (try clear hb))); go_roundg k1
   case measure => have := HK1.out; omega
   case rel => exact ⟨(wrap64 (x8_1 + 1)), zq3, H', ⟨by have := HK1.out; omega⟩, ⟨zq0 BK46⟩, ⟨zq1⟩⟩

/-! ### impl_DrawFrom: function 21 -/
def impl_DrawFrom.j0 : Nat → Bool → List Int → List (List Int) → Int → Option (List Int × Bool)
  | 0, _, _, _, _ => none
  | k + 1, x18, x162000, x162001, x163000 => if x18 = true then (some (([] : List Int), false)) else ((impl_running.f k x162000).bind fun t166 => ((slices_IndexFunc_int64_int64_impl_DrawFrom_1.f k t166 x163000).bind fun t169 => (if 0 ≤ t169 then (if t169 < (x162001.length : Int) then ((slices_Clone_int64_int64.f (rd_L1 x162001 t169)).bind fun t171 => (some (t171, true))) else (none)) else (none))))
def impl_DrawFrom.f (k : Nat) (l0_0 : List Int) (l0_1 : List (List Int)) (a1 : Int) : Option (List Int × Bool) := (impl_ValidMixture.f k l0_0 l0_1).bind fun t163 => (if t163 = true then ((impl_sum.f k l0_0).bind fun t164 => ((impl_within.f a1 0 (wrap64 (t164 - 1))).bind fun t165 => (impl_DrawFrom.j0 k (!t165) l0_0 l0_1 a1))) else (impl_DrawFrom.j0 k true l0_0 l0_1 a1))
theorem impl_DrawFrom.mono_l : ∀ k, (∀ y0 y1 y2 y3, LeO (impl_DrawFrom.j0 k y0 y1 y2 y3) (impl_DrawFrom.j0 (k + 1) y0 y1 y2 y3))
  | 0 => fun _ _ _ _ r h => by simp [impl_DrawFrom.j0] at h
  | k + 1 => by
   have ih0 := impl_DrawFrom.mono_l k
   intros
   unfold impl_DrawFrom.j0
   all_goals repeat' first | (with_reducible first | apply ih0 | apply impl_ValidMixture.mono | apply impl_running.mono | apply impl_sum.mono | apply slices_IndexFunc_int64_int64_impl_DrawFrom_1.mono | exact LeO.refl _ | exact LeO.none _ | refine LeO.ite ?_ ?_ | refine LeO.bind ?_ (fun _ => ?_)) | apply ih0 | apply impl_ValidMixture.mono | apply impl_running.mono | apply impl_sum.mono | apply slices_IndexFunc_int64_int64_impl_DrawFrom_1.mono | exact LeO.none _ | refine LeO.ite ?_ ?_ | refine LeO.bind ?_ (fun _ => ?_)
theorem impl_DrawFrom.mono : ∀ a0 a1 a2 k, LeO (impl_DrawFrom.f k a0 a1 a2) (impl_DrawFrom.f (k + 1) a0 a1 a2) := by
  intro a0 a1 a2 k
  have ih0 := impl_DrawFrom.mono_l k
  unfold impl_DrawFrom.f
  repeat' first | (with_reducible first | apply ih0 | apply impl_ValidMixture.mono | apply impl_running.mono | apply impl_sum.mono | apply slices_IndexFunc_int64_int64_impl_DrawFrom_1.mono | exact LeO.refl _ | exact LeO.none _ | refine LeO.ite ?_ ?_ | refine LeO.bind ?_ (fun _ => ?_)) | apply ih0 | apply impl_ValidMixture.mono | apply impl_running.mono | apply impl_sum.mono | apply slices_IndexFunc_int64_int64_impl_DrawFrom_1.mono | exact LeO.none _ | refine LeO.ite ?_ ?_ | refine LeO.bind ?_ (fun _ => ?_)
def impl_DrawFrom.T1 : Bool × List (List Nat × List Nat) := (true, [([], []), ([0], [0]), ([1], [1]), ([2, 1], [2]), ([3], [3]), ([3], [3]), ([5, 3], [3, 5]), ([6, 3, 3], [3, 6]), ([7, 3], [3, 7]), ([4, 8, 7, 3], [3, 4, 8]), ([9, 3], [3, 9]), ([3, 10], [3, 10])])
def impl_DrawFrom.B1 : List Nat := [0, 1, 3, 7, 15, 15, 47, 111, 239, 511, 1023, 2047]
theorem impl_DrawFrom.tab1 : rtab .any (opsOf Try.f21 1) = impl_DrawFrom.T1 := by kernel_rfl
theorem impl_DrawFrom.bits1 : waitsOk impl_DrawFrom.T1.2 impl_DrawFrom.B1 = true := by kernel_rfl
set_option maxHeartbeats 8000000 in
set_option maxRecDepth 100000 in
theorem impl_DrawFrom.calls (k : Nat) (A0_0 : Option Addr) (c0_0 : Nat) (l0_0 : List Int) (A0_1 : Option Addr) (c0_1 : Nat) (l0_1 : List (List Int)) (a1 : Int) (r1 : List Int) (r2 : Bool) (w : World) (hr0_0 : Kd.C (Kd.int .i64) w A0_0 l0_0.length l0_0) (hc0_0 : l0_0.length ≤ c0_0) (hr0_1 : Kd.C (Kd.slice 2 (Kd.int .i64)) w A0_1 l0_1.length l0_1) (hc0_1 : l0_1.length ≤ c0_1) (h : impl_DrawFrom.f k l0_0 l0_1 a1 = some (r1, r2)) :
    Calls Try.prog 21 #[.agg #[.slice A0_0 l0_0.length c0_0, .slice A0_1 l0_1.length c0_1], .int .i64 a1] w fun e w' => ∃ v0_ : Value, e = .returned (.tuple #[v0_, .bool r2]) ∧ Kd.R (Kd.int .i64) 2 w' w.heap.size (fun _ => True) v0_ r1 ∧ Below w.heap.size w w' := by
 have hu29 := Try.underlying29; have HR0_0 := mA hr0_0; have HC0_0 := mA hc0_0; clear hr0_0 hc0_0; have HR0_1 := mA hr0_1; have HC0_1 := mA hc0_1; clear hr0_1 hc0_1; have HB := mA (Below.refl w.heap.size w); have H : ((impl_ValidMixture.f k l0_0 l0_1).bind fun t163 => (if t163 = true then ((impl_sum.f k l0_0).bind fun t164 => ((impl_within.f a1 0 (wrap64 (t164 - 1))).bind fun t165 => (impl_DrawFrom.j0 k (!t165) l0_0 l0_1 a1))) else (impl_DrawFrom.j0 k true l0_0 l0_1 a1))) = some (r1, r2) := h; clear h; have HC3 := mA H; clear H; go_enter Try.func21, Try.ntmps21
 go_upto_region 1 with (first | (refine sqX 2 #[.slice A0_0 l0_0.length c0_0, .slice A0_1 l0_1.length c0_1] 29 ?_; intro gb161 hg w4 hbox hb; have BK161 := mA (hbox); have GW161 := mA ((zq24 : w.heap.size ≤ gb161)); have GE161 := mA ((zq24 : w.heap.size ≤ gb161)); replace HB := mA (below_step zq7 hb); clear hb hbox hg) | (refine sqX 3 #[.int .i64 a1] 2 ?_; intro gb162 hg w5 hbox hb; have BK162 := mA (hbox); have GW162 := mA ((zq15 : w.heap.size ≤ gb162)); have GE162 := mA ((zq15 : w.heap.size ≤ gb162)); replace HB := mA (below_step zq1 hb); have NB161_162 := mA ((by rw [hg]; exact Nat.ne_of_lt (blk_lt (g := gb161) (o := .cells #[.slice A0_0 l0_0.length c0_0, .slice A0_1 l0_1.length c0_1] 29 (0, 0)) (zq0 BK161)) : gb161 ≠ gb162)); have NB162_161 := mA ((by rw [hg]; exact Nat.ne_of_gt (blk_lt (g := gb161) (o := .cells #[.slice A0_0 l0_0.length c0_0, .slice A0_1 l0_1.length c0_1] 29 (0, 0)) (zq0 BK161)) : gb162 ≠ gb161)); replace BK161 := mA (blk_below (g := gb161) (o := .cells #[.slice A0_0 l0_0.length c0_0, .slice A0_1 l0_1.length c0_1] 29 (0, 0)) (zq0 BK161) hb); clear hb hbox hg))
 (try simp only [Act.put, List.setIfInBounds_toArray, List.set_cons_zero, List.set_cons_succ]); go_cut [18] (fun v18 wc => ∃ (kq : Nat) (x18_2 : Bool), v18 = .bool x18_2 ∧ Aside0 (impl_DrawFrom.j0 kq x18_2 l0_0 l0_1 a1 = some (r1, r2)) ∧ Aside0 (kq ≤ k) ∧ Aside0 (wc.heap[gb161]? = some (.cells #[(.slice A0_0 l0_0.length c0_0), (.slice A0_1 l0_1.length c0_1)] 29 (0, 0))) ∧ Aside0 (wc.heap[gb162]? = some (.cells #[.int .i64 a1] 2 (0, 0))) ∧ Aside0 (Below w.heap.size w wc))
 case first =>
  have H := HC3.out; clear HC3; obtain ⟨t163, A6, H⟩ := sqB H; refine sqC (t163 = true) (fun c7 => ?_) (fun c7 => ?_)
  ·replace c7 := Bool.eq_false_iff.mpr c7; subst c7; rw [if_neg (show ¬ (false = true) by decide)] at H; have H' := mA H; clear H; (try go_wp2); replace BK161 := mA (blk_drew BK161.out); replace BK162 := mA (blk_drew BK162.out); replace HB := mA (below_drew1 HB.out); refine start_ (n := 12) (S := fun w' => w'.cell? ⟨gb161, 0, none⟩ = some (.slice A0_0 l0_0.length c0_0) ∧ w'.cell? ⟨gb161, 1, none⟩ = some (.slice A0_1 l0_1.length c0_1)) (ds := []) #[false, false, false, false, false, false, false, false, false, false, false, false] (by kernel_rfl) rfl rfl ⟨(blk_cell BK161.out 0).trans rfl, (blk_cell BK161.out 1).trans rfl⟩ (fun hHeld => ?_); refine with_tabW impl_DrawFrom.tab1 impl_DrawFrom.bits1 (fun HT_ HW_ => ?_); generalize w5.drew = w12 at BK161 BK162 HB hHeld ⊢; refine sqr7 0 (some 7) ?_; refine sqr3 1 (some 8) (fun K hK => ?_); refine goes_ Try.func52 (by kernel_rfl) rfl #[.agg #[.slice A0_0 l0_0.length c0_0, .slice A0_1 l0_1.length c0_1]] (by rfl) rfl rfl zq9 ?_; (with_reducible refine (impl_ValidMixture.calls k _ _ l0_0 _ _ l0_1 false _ ?s1 ?s2 ?s3 ?s4 A6.out).mono ?_); (case s1 => repeat (first | exact (Kd.C_below HR0_0.out HB.out) | (with_reducible refine Kd.C_alloc ?_ _) | (with_reducible refine Kd.C_drewN ?_ _) | (with_reducible refine Kd.C_drew ?_))); (case s2 => exact HC0_0.out); (case s3 => repeat (first | exact (Kd.C_below HR0_1.out HB.out) | (with_reducible refine Kd.C_alloc ?_ _) | (with_reducible refine Kd.C_drewN ?_ _) | (with_reducible refine Kd.C_drew ?_))); (case s4 => exact HC0_1.out); rintro e w13 ⟨rfl, hb⟩; refine ⟨_, rfl, ?_⟩; replace BK161 := mA (blk_below (g := gb161) (o := .cells #[.slice A0_0 l0_0.length c0_0, .slice A0_1 l0_1.length c0_1] 29 (0, 0)) (zq0 BK161) hb); replace BK162 := mA (blk_below (g := gb162) (o := .cells #[.int .i64 a1] 2 (0, 0)) (zq0 BK162) hb); replace HB := mA (below_step zq1 hb); (try clear hb); refine hK.out _ _ ⟨(blk_cell BK161.out 0).trans rfl, (blk_cell BK161.out 1).trans rfl⟩ (fun hHeld => ?_); clear hK K; refine sqr4 ?_; refine sqr0 2 (some 9) ?_; refine sqr0 3 (some 10) ?_; refine sqr1 4 (some 11) ?_; refine sqr1 5 (some 12) ?_; refine sqr1 6 (some 13) ?_; refine sqr1 7 (some 14) ?_; refine sqr1 8 (some 15) ?_; refine sqr1 9 (some 16) ?_; refine sqr1 10 (some 17) ?_; refine sqr0 11 (some 18) ?_; refine done_ (done_of HT_.out (by kernel_rfl)) ?_; (try go_wp2); go_meet
   case rel => exact ⟨_, (true), zq3, H', ⟨zq19⟩, ⟨zq0 BK161⟩, ⟨zq0 BK162⟩, ⟨zq1⟩⟩
  subst c7; rw [if_pos rfl] at H; obtain ⟨t164, A8, H⟩ := sqB H; obtain ⟨t165, A9, H⟩ := sqB H; have H' := mA H; clear H; (try go_wp2); replace BK161 := mA (blk_drew BK161.out); replace BK162 := mA (blk_drew BK162.out); replace HB := mA (below_drew1 HB.out); refine start_ (n := 12) (S := fun w' => w'.cell? ⟨gb161, 0, none⟩ = some (.slice A0_0 l0_0.length c0_0) ∧ w'.cell? ⟨gb161, 1, none⟩ = some (.slice A0_1 l0_1.length c0_1) ∧ w'.cell? ⟨gb162, 0, none⟩ = some (.int .i64 a1)) (ds := []) #[false, false, false, false, false, false, false, false, false, false, false, false] (by kernel_rfl) rfl rfl ⟨(blk_cell BK161.out 0).trans rfl, (blk_cell BK161.out 1).trans rfl, (blk_cell BK162.out 0).trans rfl⟩ (fun hHeld => ?_); refine with_tabW impl_DrawFrom.tab1 impl_DrawFrom.bits1 (fun HT_ HW_ => ?_); generalize w5.drew = w10 at BK161 BK162 HB hHeld ⊢; refine sqr6 0 (some 7) ?_; refine sqr3 1 (some 8) (fun K hK => ?_); refine goes_ Try.func52 (by kernel_rfl) rfl #[.agg #[.slice A0_0 l0_0.length c0_0, .slice A0_1 l0_1.length c0_1]] (by rfl) rfl rfl zq9 ?_; (with_reducible refine (impl_ValidMixture.calls k _ _ l0_0 _ _ l0_1 true _ ?s1 ?s2 ?s3 ?s4 A6.out).mono ?_); (case s1 => repeat (first | exact (Kd.C_below HR0_0.out HB.out) | (with_reducible refine Kd.C_alloc ?_ _) | (with_reducible refine Kd.C_drewN ?_ _) | (with_reducible refine Kd.C_drew ?_))); (case s2 => exact HC0_0.out); (case s3 => repeat (first | exact (Kd.C_below HR0_1.out HB.out) | (with_reducible refine Kd.C_alloc ?_ _) | (with_reducible refine Kd.C_drewN ?_ _) | (with_reducible refine Kd.C_drew ?_))); (case s4 => exact HC0_1.out); rintro e w11 ⟨rfl, hb⟩; refine ⟨_, rfl, ?_⟩; replace BK161 := mA (blk_below (g := gb161) (o := .cells #[.slice A0_0 l0_0.length c0_0, .slice A0_1 l0_1.length c0_1] 29 (0, 0)) (zq0 BK161) hb); replace BK162 := mA (blk_below (g := gb162) (o := .cells #[.int .i64 a1] 2 (0, 0)) (zq0 BK162) hb); replace HB := mA (below_step zq1 hb); (try clear hb); refine hK.out _ _ ⟨(blk_cell BK161.out 0).trans rfl, (blk_cell BK161.out 1).trans rfl, (blk_cell BK162.out 0).trans rfl⟩ (fun hHeld => ?_); clear hK K; refine sqr4 ?_; refine sqr0 2 (some 9) ?_; refine sqr0 3 (some 10) ?_; refine sqr0 5 (some 12) ?_; refine sqr6 4 (some 11) ?_; refine sqr6 6 (some 13) ?_; refine sqr3 7 (some 14) (fun K hK => ?_); refine goes_ Try.func69 (by kernel_rfl) rfl #[.slice A0_0 l0_0.length c0_0] (by rfl) rfl rfl zq9 ?_; (with_reducible refine (impl_sum.calls k _ _ l0_0 t164 _ ?s1 ?s2 A8.out).mono ?_); (case s1 => repeat (first | exact (Kd.C_below HR0_0.out HB.out) | (with_reducible refine Kd.C_alloc ?_ _) | (with_reducible refine Kd.C_drewN ?_ _) | (with_reducible refine Kd.C_drew ?_))); (case s2 => exact HC0_0.out); rintro e w' ⟨rfl, ⟨nd, rfl⟩⟩; refine ⟨_, rfl, ?_⟩; refine hK.out _ _ ⟨(blk_cell BK161.out 0).trans rfl, (blk_cell BK161.out 1).trans rfl, (blk_cell BK162.out 0).trans rfl⟩ (fun hHeld => ?_); clear hK K; refine sqr4 ?_; refine sqr0 8 (some 15) ?_; refine sqr3 9 (some 16) (fun K hK => ?_)
  refine goes_ Try.func68 (by kernel_rfl) rfl #[.int .i64 a1, .int .i64 0, .int .i64 (wrap64 (t164 - 1))] (by rfl) rfl rfl zq9 ?_; (with_reducible refine (impl_within.calls a1 0 (wrap64 (t164 - 1)) t165 _ A9.out).mono ?_); rintro e w' ⟨rfl, ⟨nd, rfl⟩⟩; refine ⟨_, rfl, ?_⟩; refine hK.out _ _ ⟨(blk_cell BK161.out 0).trans rfl, (blk_cell BK161.out 1).trans rfl, (blk_cell BK162.out 0).trans rfl⟩ (fun hHeld => ?_); clear hK K; refine sqr4 ?_; refine sqr0 10 (some 17) ?_; refine sqr0 11 (some 18) ?_; refine done_ (done_of HT_.out (by kernel_rfl)) ?_; (try go_wp2); go_meet
  case rel => exact ⟨_, (!t165), zq3, H', ⟨zq19⟩, ⟨zq0 BK161⟩, ⟨zq0 BK162⟩, ⟨zq1⟩⟩
 case rest =>
  clear HC3; (try clear c2); (try clear p2); (try clear c5); (try clear c6); (try clear p6); (try clear c7); obtain ⟨kq, x18_2, rfl, HA, HJ2, BK161, BK162, HB⟩ := hcut
  cases kq with
  | zero => exact absurd HA.out (by simp [impl_DrawFrom.j0])
  | succ kj2 =>
   have H := HA.out; clear HA; simp only [impl_DrawFrom.j0] at H; by_cases c14 : x18_2 = true
   ·subst c14; rw [if_pos rfl] at H; simp only [Option.some.injEq, Prod.mk.injEq] at H; obtain ⟨rfl, rfl⟩ := H; go_wp2; go_ret2; exact ⟨_, zq6, by first | exact Kd.R_nil _ _ _ _ _ | exact Kd.N_nil _ _ _ _ _ | exact Kd.V_nil _ _ _ _ _ | exact Kd.Q_nil _ _ _ _ _ | exact Kd.S_nil _ _ _ _ _, zq1⟩
   replace c14 := Bool.eq_false_iff.mpr c14; subst c14; rw [if_neg (show ¬ (false = true) by decide)] at H; obtain ⟨t166, A15, H⟩ := sqB H; obtain ⟨t169, A16, H⟩ := sqB H; obtain ⟨c17, H⟩ := sqI H; replace c17 := decide_eq_true c17; obtain ⟨c18, H⟩ := sqI H; replace c18 := decide_eq_true c18; obtain ⟨t171, A19, H⟩ := sqB H; simp only [Option.some.injEq, Prod.mk.injEq] at H; obtain ⟨rfl, rfl⟩ := H; have hnb20 := NB161_162.out; have hnc20 := NB162_161.out; have hcz21_0 := sqZ0 BK161; have hcz21_1 := sqZ1 BK161; have hfz21_0 := blk_frozen BK161.out 0; have hfz21_1 := blk_frozen BK161.out 1
   go_wp2_with (first | (refine sqG 71 (some 21) Try.func71 #[.slice A0_0 l0_0.length c0_0] (h := ?_); (with_reducible refine (impl_running.calls kj2 _ _ l0_0 t166 _ ?s1 ?s2 A15.out).mono ?_); (case s1 => repeat (first | exact (Kd.C_below HR0_0.out HB.out) | (with_reducible refine Kd.C_alloc ?_ _) | (with_reducible refine Kd.C_drewN ?_ _) | (with_reducible refine Kd.C_drew ?_))); (case s2 => exact HC0_0.out); rintro e w22 ⟨v167, rfl, ho0, hb⟩; refine ⟨_, rfl, ?_⟩; have HO168 := mA (Kd.R_lower (Kd.R_newB ho0 (g := gb162) (o := .cells #[.int .i64 a1] 2 (0, 0)) (zq0 BK162)) (below_size zq1)); replace BK161 := mA (blk_below (g := gb161) (o := .cells #[.slice A0_0 l0_0.length c0_0, .slice A0_1 l0_1.length c0_1] 29 (0, 0)) (zq0 BK161) hb); replace BK162 := mA (blk_below (g := gb162) (o := .cells #[.int .i64 a1] 2 (0, 0)) (zq0 BK162) hb); replace HB := mA (below_step zq1 hb); (try clear hb ho0); obtain ⟨Ao23, co23, eo23⟩ := Kd.R_slice HO168.out; subst eo23) | (refine sqG 70 (some 23) Try.func70 #[.slice Ao23 t166.length co23, .func (.func 72) #[] #[.pointer (some ⟨gb162, 0, none⟩)]] (h := ?_); (with_reducible refine (slices_IndexFunc_int64_int64_impl_DrawFrom_1.calls kj2 _ _ t166 gb162 a1 t169 _ ?s1 ?s2 ?s3 A16.out).mono ?_); (case s1 => repeat (first | exact (Kd.R_reads' HO168.out).2.2 | (with_reducible refine Kd.C_alloc ?_ _) | (with_reducible refine Kd.C_drewN ?_ _) | (with_reducible refine Kd.C_drew ?_))); (case s2 => exact (Kd.R_reads' HO168.out).2.1); (case s3 => first | (with_reducible exact BK162.out) | (exact by (with_reducible repeat (first | refine blk_drewN ?_ _ | refine blk_drew ?_ | refine blk_alloc ?_ _)); exact BK162.out) | ((with_reducible repeat (first | refine blk_drewN ?_ _ | refine blk_drew ?_ | refine blk_alloc ?_ _)); exact BK162.out) | (exact BK162.out)); rintro e w24 ⟨rfl, hb⟩; refine ⟨_, rfl, ?_⟩; replace HO168 := mA (Kd.R_below (zq2 HO168) hb); replace BK161 := mA (blk_below (g := gb161) (o := .cells #[.slice A0_0 l0_0.length c0_0, .slice A0_1 l0_1.length c0_1] 29 (0, 0)) (zq0 BK161) hb); replace BK162 := mA (blk_below (g := gb162) (o := .cells #[.int .i64 a1] 2 (0, 0)) (zq0 BK162) hb); replace HB := mA (below_step zq1 hb); (try clear hb); have hcz25_0 := sqZ0 BK161; have hcz25_1 := sqZ1 BK161; have hfz25_0 := blk_frozen BK161.out 0; have hfz25_1 := blk_frozen BK161.out 1; have p170 : 0 ≤ (t169 : Int) := sqd; have q170 : t169 < (l0_1.length : Int) := sqd; obtain ⟨ad170, A170_0, c170_0, e170, hx170_0, hl170_0, hi170_0⟩ := at_L1 HR0_1.out t169 p170 q170; cases e170; replace hx170_0 := sqh HB hx170_0; have HR170_0 := mA hi170_0; have HC170_0 := mA hl170_0; clear hi170_0 hl170_0; replace p170 := eq_true p170; replace q170 := eq_true q170) | (refine sqG 73 (some 29) Try.func73 #[.slice A170_0 (rd_L1 l0_1 t169).length c170_0] (h := ?_); (with_reducible refine (slices_Clone_int64_int64.calls _ _ (rd_L1 l0_1 t169) t171 _ ?s1 ?s2 A19.out).mono ?_); (case s1 => repeat (first | exact (Kd.C_below HR170_0.out HB.out) | (with_reducible refine Kd.C_alloc ?_ _) | (with_reducible refine Kd.C_drewN ?_ _) | (with_reducible refine Kd.C_drew ?_))); (case s2 => exact HC170_0.out); rintro e w26 ⟨v172, rfl, ho0, hb⟩; refine ⟨_, rfl, ?_⟩; have HO173 := mA (Kd.R_lower (Kd.R_newB (Kd.R_new' ho0 (Kd.R_lt (zq2 HO168))) (g := gb162) (o := .cells #[.int .i64 a1] 2 (0, 0)) (zq0 BK162)) (below_size zq1)); replace HO168 := mA (Kd.R_elder' (zq2 HO168) (Kd.R_base ho0) hb); replace BK161 := mA (blk_below (g := gb161) (o := .cells #[.slice A0_0 l0_0.length c0_0, .slice (some ad170) l0_1.length c0_1] 29 (0, 0)) (zq0 BK161) hb); replace BK162 := mA (blk_below (g := gb162) (o := .cells #[.int .i64 a1] 2 (0, 0)) (zq0 BK162) hb); replace HB := mA (below_step zq1 hb); (try clear hb ho0)))
   go_ret2; exact ⟨_, zq6, zq49 HO173, zq1⟩

/-! ### laws_r8Long: function 49 -/
def laws_r8Long.f (l0 : List Int) (l1 : List Int) : Option (Bool) := if (l0.length : Int) > 48 then (some true) else (some (decide ((l1.length : Int) > 48)))
set_option maxHeartbeats 8000000 in
set_option maxRecDepth 100000 in
theorem laws_r8Long.calls (A0 : Option Addr) (c0 : Nat) (l0 : List Int) (A1 : Option Addr) (c1 : Nat) (l1 : List Int) (r : Bool) (w : World) (hr0 : Kd.C (Kd.int .u8) w A0 l0.length l0) (hc0 : l0.length ≤ c0) (hr1 : Kd.C (Kd.int .u8) w A1 l1.length l1) (hc1 : l1.length ≤ c1) (h : laws_r8Long.f l0 l1 = some r) :
    Calls Try.prog 49 #[.slice A0 l0.length c0, .slice A1 l1.length c1] w fun e w' => e = .returned (.bool r) ∧ Drawn0 w w' := by
 have HR0 := mA hr0; have HC0 := mA hc0; clear hr0 hc0; have HR1 := mA hr1; have HC1 := mA hc1; clear hr1 hc1; have H : (if (l0.length : Int) > 48 then (some true) else (some (decide ((l1.length : Int) > 48)))) = some r := h; clear h; by_cases c3 : (l0.length : Int) > 48
 ·rw [if_pos c3] at H; have c3b0 := decide_eq_true c3; have c3b1 : decide (48 < l0.length) = true := decide_eq_true (by omega); clear c3; obtain rfl := Option.some.inj H; go_enter Try.func49, Try.ntmps49; go_wp2; go_ret; exact ⟨zq3, zq8⟩
 rw [if_neg c3] at H; have c3b0 := decide_eq_false c3; have c3b1 : decide (48 < l0.length) = false := decide_eq_false (by omega); clear c3; obtain rfl := Option.some.inj H; go_enter Try.func49, Try.ntmps49; go_wp2; go_ret; exact ⟨zq3, zq8⟩

/-! ### laws_r8At: function 53 -/
def laws_r8At.f (l0 : List Int) (a1 : Int) (a2 : Int) : Option (Int) := if a2 ≤ 1 then (some 0) else (if a1 ≥ (l0.length : Int) then (some 0) else (if 0 ≤ a1 then (if a1 < (l0.length : Int) then (if a2 = 0 then (none) else (some (Int.tmod (wrap64 (rd l0 a1)) a2))) else (none)) else (none)))
set_option maxHeartbeats 8000000 in
set_option maxRecDepth 100000 in
theorem laws_r8At.calls (A0 : Option Addr) (c0 : Nat) (l0 : List Int) (a1 : Int) (a2 : Int) (r : Int) (w : World) (hr0 : Kd.C (Kd.int .u8) w A0 l0.length l0) (hc0 : l0.length ≤ c0) (h : laws_r8At.f l0 a1 a2 = some r) :
    Calls Try.prog 53 #[.slice A0 l0.length c0, .int .i64 a1, .int .i64 a2] w fun e w' => e = .returned (.int .i64 r) ∧ Drawn0 w w' := by
 have HR0 := mA hr0; have HC0 := mA hc0; clear hr0 hc0; have H : (if a2 ≤ 1 then (some 0) else (if a1 ≥ (l0.length : Int) then (some 0) else (if 0 ≤ a1 then (if a1 < (l0.length : Int) then (if a2 = 0 then (none) else (some (Int.tmod (wrap64 (rd l0 a1)) a2))) else (none)) else (none)))) = some r := h; clear h; by_cases c4 : a2 ≤ 1
 ·rw [if_pos c4] at H; replace c4 := decide_eq_true c4; obtain rfl := Option.some.inj H; go_enter Try.func53, Try.ntmps53; go_wp2; go_ret; exact ⟨zq3, zq8⟩
 rw [if_neg c4] at H; replace c4 := decide_eq_false c4; by_cases c5 : a1 ≥ (l0.length : Int)
 ·rw [if_pos c5] at H; replace c5 := decide_eq_true c5; obtain rfl := Option.some.inj H; go_enter Try.func53, Try.ntmps53; go_wp2; go_ret; exact ⟨zq3, zq8⟩
 rw [if_neg c5] at H; replace c5 := decide_eq_false c5; obtain ⟨c6, H⟩ := sqI H; replace c6 := decide_eq_true c6; obtain ⟨c7, H⟩ := sqI H; replace c7 := decide_eq_true c7; obtain ⟨c8, H⟩ := sqJ H; have c8b0 : (a2 == 0) = false := beq_eq_false_iff_ne.mpr c8; have c8b1 : (a2 != 0) = true := bne_iff_ne.mpr c8; obtain rfl := Option.some.inj H; have p174 : 0 ≤ (a1 : Int) := sqd; have q174 : a1 < (l0.length : Int) := sqd; obtain ⟨ad174, e174, hx174_0⟩ := Kd.at_int HR0.out a1 p174 q174
 cases e174
 replace p174 := eq_true p174; replace q174 := eq_true q174; go_enter Try.func53, Try.ntmps53; go_wp2; go_ret; exact ⟨zq3, zq8⟩

end Go.Proofs.Ytlhpejabdmejbaa.PFnTickets
