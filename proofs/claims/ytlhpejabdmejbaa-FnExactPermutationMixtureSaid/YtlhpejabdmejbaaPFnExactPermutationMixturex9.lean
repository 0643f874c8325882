/- Written by this session's program (wip/tool/xprint.py) over the kit's printer. -/
import Derived.Test.YtlhpejabdmejbaaPFnExactPermutationMixturex0
import Derived.Test.YtlhpejabdmejbaaPFnExactPermutationMixturex8
namespace Go.Proofs.Ytlhpejabdmejbaa.PFnExactPermutationMixture
open Go.RowKit Go.Proofs.YtlhpejabdmejbaaW.PrintWords Go.Proofs.YtlhpejabdmejbaaW.PrintLast Go.Proofs.YtlhpejabdmejbaaW.PrintMore
attribute [local go_sem] max2_int min2_int max_two min_two max_three min_three max_four min_four   -- for this text's walks alone
set_option linter.unusedVariables false
set_option linter.unusedSimpArgs false

/-! ### impl_ownRows: function 87 -/
def impl_ownRows.l0 : Nat → List (List Int) → List (List Int) → Int → Int → Option ((List (List Int)))
  | 0, _, _, _, _ => none
  | k + 1, x3, x7, x8, x9 => if x9 < x8 then (if 0 ≤ x9 then (if x9 < (x7.length : Int) then ((slices_Clone_int64_int64.f (rd_L1 x7 x9)).bind fun t243 => (if x3.length < 5864062014805 then (impl_ownRows.l0 k (x3 ++ [t243]) x7 x8 (wrap64 (x9 + 1))) else (none))) else (none)) else (none)) else (some x3)
def impl_ownRows.f (k : Nat) (l0 : List (List Int)) : Option ((List (List Int))) := impl_ownRows.l0 k (([] : List (List Int))) l0 (l0.length : Int) 0
theorem impl_ownRows.mono_l : ∀ k, (∀ y0 y1 y2 y3, LeO (impl_ownRows.l0 k y0 y1 y2 y3) (impl_ownRows.l0 (k + 1) y0 y1 y2 y3))
  | 0 => fun _ _ _ _ r h => by simp [impl_ownRows.l0] at h
  | k + 1 => by
   have ih0 := impl_ownRows.mono_l k
   intros
   unfold impl_ownRows.l0
   all_goals repeat' first | (with_reducible first | apply ih0 | exact LeO.refl _ | exact LeO.none _ | refine LeO.ite ?_ ?_ | refine LeO.bind ?_ (fun _ => ?_)) | apply ih0 | exact LeO.none _ | refine LeO.ite ?_ ?_ | refine LeO.bind ?_ (fun _ => ?_)
theorem impl_ownRows.mono : ∀ a0 k, LeO (impl_ownRows.f k a0) (impl_ownRows.f (k + 1) a0) := by
  intro a0 k
  have ih0 := impl_ownRows.mono_l k
  unfold impl_ownRows.f
  repeat' first | (with_reducible first | apply ih0 | exact LeO.refl _ | exact LeO.none _ | refine LeO.ite ?_ ?_ | refine LeO.bind ?_ (fun _ => ?_)) | apply ih0 | exact LeO.none _ | refine LeO.ite ?_ ?_ | refine LeO.bind ?_ (fun _ => ?_)
set_option maxHeartbeats 8000000 in
set_option maxRecDepth 100000 in
theorem impl_ownRows.calls (k : Nat) (A0 : Option Addr) (c0 : Nat) (l0 : List (List Int)) (r : List (List Int)) (w : World) (hr0 : Kd.C (Kd.slice 2 (Kd.int .i64)) w A0 l0.length l0) (hc0 : l0.length ≤ c0) (h : impl_ownRows.f k l0 = some r) :
    Calls Try.prog 87 #[.slice A0 l0.length c0] w fun e w' => ∃ v0_ : Value, e = .returned (v0_) ∧ Kd.S (Kd.slice 2 (Kd.int .i64)) 22 w' w.heap.size (fun _ => True) v0_ r ∧ Below w.heap.size w w' := by
 have HR0 := mA hr0; have HC0 := mA hc0; clear hr0 hc0; have HB := mA (Below.refl w.heap.size w); have H : (impl_ownRows.l0 k (([] : List (List Int))) l0 (l0.length : Int) 0) = some r := h; clear h; obtain ⟨y239, hy239⟩ : ∃ y_ : List (List Int), y_ = (([] : List (List Int))) := ⟨_, rfl⟩
 replace H : (impl_ownRows.l0 k y239 l0 (l0.length : Int) 0) = some r := by first | (rw [hy239]; with_reducible exact H) | (have H2_ := (Option.bind_some _ _).symm.trans H; rw [hy239]; with_reducible exact H2_) | (have H2_ := (Option.bind_some _ _).symm.trans H; with_reducible exact H2_) | with_reducible exact H | (rw [hy239]; exact H) | exact H
 have Ny239 := mA hy239; clear hy239; have H' := mA H; clear H; go_enter Try.func87, Try.ntmps87; go_wp2_with (first | ((with_reducible refine gate_dst (N := 6) rfl ?_); refine Kd.S_lit (Kd.slice 2 (Kd.int .i64)) _ 22 ?hg (N := 6) ?hd (xs := ([] : List (List Int))) (inner := []) (ok := fun _ => True) (okp := fun _ => True) ?hr ?hp (fun _ hk => hk) trivial (Below.refl _ _) (Nat.le_refl _) (by simp) ?_; (case hd => rfl); (case hg => rfl); (case hr => exact zq11); (case hp => exact (Reps.none _ _)); intro v240 w2 ho3 hb hg_ hnew_; clear hg_ hnew_; (first | rw [← Ny239.out] at ho3 | (simp only [Int.reduceToNat] at ho3; rw [← Ny239.out] at ho3)); have HO241 := mA (Kd.S_lower ho3 (below_size zq0)); replace HB := mA (below_step zq0 hb); clear hb ho3)); go_loopg [3, 9] k (fun kq v3 v9 w' => ∃ (x3_1 : List (List Int)) (x9_1 : Int), v9 = .int .i64 x9_1 ∧ Aside0 (impl_ownRows.l0 kq x3_1 l0 (l0.length : Int) x9_1 = some r) ∧ Aside0 (kq ≤ k) ∧ Aside0 (Kd.S (Kd.slice 2 (Kd.int .i64)) 22 w' w.heap.size (fun _ => True) v3 x3_1) ∧ Aside0 (Below w.heap.size w w'))
 case atStart => exact ⟨(y239), (0), zq4, H', ⟨Nat.le_refl _⟩, ⟨zq5 HO241⟩, ⟨zq0⟩⟩
 case round =>
  clear H'; obtain ⟨x3_1, x9_1, rfl, HA, HK1, HO_3, HB⟩ := hrel
  cases gk with
  | zero => exact absurd HA.out (by simp [impl_ownRows.l0])
  | succ k1 =>
   have H := HA.out; clear HA; simp only [impl_ownRows.l0] at H; refine sqC (x9_1 < (l0.length : Int)) (fun c4 => ?_) (fun c4 => ?_)
   ·rw [if_neg c4] at H; have c4b0 : decide (x9_1 < (l0.length : Int)) = false := decide_eq_false c4; clear c4; obtain rfl := Option.some.inj H; go_wp2; go_ret; exact ⟨_, zq7, zq5 HO_3, zq0⟩
   rw [if_pos c4] at H; have c4b0 : decide (x9_1 < (l0.length : Int)) = true := decide_eq_true c4; clear c4; obtain ⟨c5, H⟩ := sqI H; replace c5 := decide_eq_true c5; obtain ⟨c6, H⟩ := sqI H; replace c6 := decide_eq_true c6; obtain ⟨t243, A7, H⟩ := sqB H; obtain ⟨c8, H⟩ := sqI H; have LMc8 := mA c8; clear c8; obtain ⟨y246, hy246⟩ : ∃ y_ : List (List Int), y_ = (x3_1 ++ [t243]) := ⟨_, rfl⟩
   replace H : (impl_ownRows.l0 k1 y246 l0 (l0.length : Int) (wrap64 (x9_1 + 1))) = some r := by first | (rw [hy246]; with_reducible exact H) | (have H2_ := (Option.bind_some _ _).symm.trans H; rw [hy246]; with_reducible exact H2_) | (have H2_ := (Option.bind_some _ _).symm.trans H; with_reducible exact H2_) | with_reducible exact H | (rw [hy246]; exact H) | exact H
   have Ny246 := mA hy246; clear hy246; have H' := mA H; clear H; have p242 : 0 ≤ (x9_1 : Int) := sqd; have q242 : x9_1 < (l0.length : Int) := sqd; obtain ⟨ad242, A242_0, c242_0, e242, hx242_0, hl242_0, hi242_0⟩ := at_L1 HR0.out x9_1 p242 q242
   cases e242
   replace hx242_0 := sqh HB hx242_0; have HR242_0 := mA hi242_0; have HC242_0 := mA hl242_0; clear hi242_0 hl242_0; replace p242 := eq_true p242; replace q242 := eq_true q242; go_wp2_with (first | (refine sqG 73 (some 15) Try.func73 #[.slice A242_0 (rd_L1 l0 x9_1).length c242_0] (h := ?_); (with_reducible refine (slices_Clone_int64_int64.calls _ _ (rd_L1 l0 x9_1) t243 _ ?s1 ?s2 A7.out).mono ?_); (case s1 => exact zq9 HR242_0); (case s2 => exact HC242_0.out); rintro e w9 ⟨v244, rfl, ho0, hb⟩; refine ⟨_, rfl, ?_⟩; replace HO_3 := mA (Kd.S_elder' (zq5 HO_3) (Kd.R_base ho0) hb); have HO245 := mA (Kd.R_lower ho0 (below_size zq0)); replace HB := mA (below_step zq0 hb); (try clear hb ho0); obtain ⟨Ao11, co11, eo11⟩ := Kd.R_slice HO245.out; subst eo11) | ((with_reducible refine gate_builtin (b := .append) (xs := #[.tmp 13, .tmp 16]) rfl ?_); at_builtin; refine Kd.S_append (Kd.slice 2 (Kd.int .i64)) (w0 := w) w.heap.size rfl (.tmp 13) (.tmp 16) 23 22 (.slice none 0 0) 24 rfl Try.underlying23 info22 rfl (by decide) (by omega) u3 x3_1 t243 [.slice Ao11 t243.length co11] (fun _ => True) (fun k_ => some k_ = (.slice Ao11 t243.length co11 : Value).ownBlock) rfl rfl ?aP (fun k_ hk_ => ((Kd.R_mono (ok' := fun k_ => ((fun _ => True)) k_ ∧ some k_ ≠ (u3 : Value).ownBlock) (Kd.R_apart' (HO245.out) (Kd.S_typed HO_3.out) (by decide)) (fun k_ hk => ⟨trivial, hk.2⟩))).1 k_ hk_.symm) ?aF ?aO ?aB ?aS ?aL ?_; (case aP => exact Kd.M_row (Kd.R_mono (Kd.R_tight rfl (Kd.R_mono (ok' := fun k_ => ((fun _ => True)) k_ ∧ some k_ ≠ (u3 : Value).ownBlock) (Kd.R_apart' (HO245.out) (Kd.S_typed HO_3.out) (by decide)) (fun k_ hk => ⟨trivial, hk.2⟩))) (fun _ h_ => h_))); (case aB => exact zq19); (case aF => exact zq26); (case aO => exact (by (with_reducible repeat (first | apply Kd.S_alloc | apply Kd.S_drewN | apply Kd.S_drew)); exact Kd.S_mono HO_3.out (fun k_ hk => ⟨trivial, fun e_ => hk.2 e_⟩))); (case aS => exact zq24); (case aL => have := LMc8.out; omega); intro v247 w10 ho hb hg hat; rw [← Ny246.out] at ho; replace HB := mA (hb); have HO248 := mA (ho); clear HO_3 HO245 ho hb hg hat)); go_roundg k1
   case measure => have := HK1.out; omega
   case rel => exact ⟨(y246), (wrap64 (x9_1 + 1)), zq4, H', ⟨by have := HK1.out; omega⟩, ⟨zq5 HO248⟩, ⟨zq0⟩⟩

/-! ### slices_Index_int64_int64: function 100 -/
def slices_Index_int64_int64.l0 : Nat → List Int → Int → Int → Int → Option (Int)
  | 0, _, _, _, _ => none
  | k + 1, x0, x1, x7, x8 => if x8 < x7 then (if 0 ≤ x8 then (if x8 < (x0.length : Int) then (if x1 = (rd x0 x8) then (some x8) else (slices_Index_int64_int64.l0 k x0 x1 x7 (wrap64 (x8 + 1)))) else (none)) else (none)) else (some (-1))
def slices_Index_int64_int64.f (k : Nat) (l0 : List Int) (a1 : Int) : Option (Int) := slices_Index_int64_int64.l0 k l0 a1 (l0.length : Int) 0
theorem slices_Index_int64_int64.mono_l : ∀ k, (∀ y0 y1 y2 y3, LeO (slices_Index_int64_int64.l0 k y0 y1 y2 y3) (slices_Index_int64_int64.l0 (k + 1) y0 y1 y2 y3))
  | 0 => fun _ _ _ _ r h => by simp [slices_Index_int64_int64.l0] at h
  | k + 1 => by
   have ih0 := slices_Index_int64_int64.mono_l k
   intros
   unfold slices_Index_int64_int64.l0
   all_goals repeat' first | (with_reducible first | apply ih0 | exact LeO.refl _ | exact LeO.none _ | refine LeO.ite ?_ ?_ | refine LeO.bind ?_ (fun _ => ?_)) | apply ih0 | exact LeO.none _ | refine LeO.ite ?_ ?_ | refine LeO.bind ?_ (fun _ => ?_)
theorem slices_Index_int64_int64.mono : ∀ a0 a1 k, LeO (slices_Index_int64_int64.f k a0 a1) (slices_Index_int64_int64.f (k + 1) a0 a1) := by
  intro a0 a1 k
  have ih0 := slices_Index_int64_int64.mono_l k
  unfold slices_Index_int64_int64.f
  repeat' first | (with_reducible first | apply ih0 | exact LeO.refl _ | exact LeO.none _ | refine LeO.ite ?_ ?_ | refine LeO.bind ?_ (fun _ => ?_)) | apply ih0 | exact LeO.none _ | refine LeO.ite ?_ ?_ | refine LeO.bind ?_ (fun _ => ?_)
set_option maxHeartbeats 8000000 in
set_option maxRecDepth 100000 in
theorem slices_Index_int64_int64.calls (k : Nat) (A0 : Option Addr) (c0 : Nat) (l0 : List Int) (a1 : Int) (r : Int) (w : World) (hr0 : Kd.C (Kd.int .i64) w A0 l0.length l0) (hc0 : l0.length ≤ c0) (h : slices_Index_int64_int64.f k l0 a1 = some r) :
    Calls Try.prog 100 #[.slice A0 l0.length c0, .int .i64 a1] w fun e w' => e = .returned (.int .i64 r) ∧ Drawn0 w w' := by
 have HR0 := mA hr0; have HC0 := mA hc0; clear hr0 hc0; have H : (slices_Index_int64_int64.l0 k l0 a1 (l0.length : Int) 0) = some r := h; clear h; have H' := mA H; clear H; go_enter Try.func100, Try.ntmps100; go_wp2; go_loopg [8] k (fun kq v8 w' => ∃ (x8_1 : Int), v8 = .int .i64 x8_1 ∧ Aside0 (slices_Index_int64_int64.l0 kq l0 a1 (l0.length : Int) x8_1 = some r) ∧ Aside0 (kq ≤ k) ∧ Drawn0 w w')
 case atStart => exact ⟨(0), zq4, H', ⟨Nat.le_refl _⟩, zq8⟩
 case round =>
  clear H'; obtain ⟨x8_1, rfl, HA, HK1, ⟨m1, rfl⟩⟩ := hrel
  cases gk with
  | zero => exact absurd HA.out (by simp [slices_Index_int64_int64.l0])
  | succ k1 =>
   have H := HA.out; clear HA; simp only [slices_Index_int64_int64.l0] at H; refine sqC (x8_1 < (l0.length : Int)) (fun c3 => ?_) (fun c3 => ?_)
   ·rw [if_neg c3] at H; replace c3 := decide_eq_false c3; obtain rfl := Option.some.inj H; go_wp2; go_ret; exact ⟨zq4, zq8⟩
   rw [if_pos c3] at H; replace c3 := decide_eq_true c3; obtain ⟨c4, H⟩ := sqI H; have c4b0 : decide (0 ≤ x8_1) = true := decide_eq_true c4; clear c4; obtain ⟨c5, H⟩ := sqI H; replace c5 := decide_eq_true c5; by_cases c6 : a1 = (rd l0 x8_1)
   ·rw [if_pos c6] at H; have c6b0 : (a1 == (rd l0 x8_1)) = true := beq_iff_eq.mpr c6; have c6b1 : (a1 != (rd l0 x8_1)) = false := bne_eq_false_iff_eq.mpr c6; clear c6; obtain rfl := Option.some.inj H; have p249 : 0 ≤ (x8_1 : Int) := sqd; have q249 : x8_1 < (l0.length : Int) := sqd; obtain ⟨ad249, e249, hx249_0⟩ := Kd.at_int HR0.out x8_1 p249 q249
    cases e249
    replace p249 := eq_true p249; replace q249 := eq_true q249; go_wp2; go_ret; exact ⟨zq4, zq8⟩
   rw [if_neg c6] at H; have c6b0 : (a1 == (rd l0 x8_1)) = false := beq_eq_false_iff_ne.mpr c6; have c6b1 : (a1 != (rd l0 x8_1)) = true := bne_iff_ne.mpr c6; have H' := mA H; clear H; have p249 : 0 ≤ (x8_1 : Int) := sqd; have q249 : x8_1 < (l0.length : Int) := sqd; obtain ⟨ad249, e249, hx249_0⟩ := Kd.at_int HR0.out x8_1 p249 q249
   cases e249
   replace p249 := eq_true p249; replace q249 := eq_true q249; go_wp2; go_roundg k1
   case measure => have := HK1.out; omega
   case rel => exact ⟨(wrap64 (x8_1 + 1)), zq4, H', ⟨by have := HK1.out; omega⟩, zq8⟩

/-! ### slices_Contains_int64_int64: function 123 -/
def slices_Contains_int64_int64.f (k : Nat) (l0 : List Int) (a1 : Int) : Option (Bool) := (slices_Index_int64_int64.f k l0 a1).bind fun t250 => (some (decide (t250 ≥ 0)))
theorem slices_Contains_int64_int64.mono : ∀ a0 a1 k, LeO (slices_Contains_int64_int64.f k a0 a1) (slices_Contains_int64_int64.f (k + 1) a0 a1) := by
  intro a0 a1 k
  unfold slices_Contains_int64_int64.f
  repeat' first | (with_reducible first | apply slices_Index_int64_int64.mono | exact LeO.refl _ | exact LeO.none _ | refine LeO.ite ?_ ?_ | refine LeO.bind ?_ (fun _ => ?_)) | apply slices_Index_int64_int64.mono | exact LeO.none _ | refine LeO.ite ?_ ?_ | refine LeO.bind ?_ (fun _ => ?_)
set_option maxHeartbeats 8000000 in
set_option maxRecDepth 100000 in
theorem slices_Contains_int64_int64.calls (k : Nat) (A0 : Option Addr) (c0 : Nat) (l0 : List Int) (a1 : Int) (r : Bool) (w : World) (hr0 : Kd.C (Kd.int .i64) w A0 l0.length l0) (hc0 : l0.length ≤ c0) (h : slices_Contains_int64_int64.f k l0 a1 = some r) :
    Calls Try.prog 123 #[.slice A0 l0.length c0, .int .i64 a1] w fun e w' => e = .returned (.bool r) ∧ Drawn0 w w' := by
 have HR0 := mA hr0; have HC0 := mA hc0; clear hr0 hc0; have H : ((slices_Index_int64_int64.f k l0 a1).bind fun t250 => (some (decide (t250 ≥ 0)))) = some r := h; clear h; obtain ⟨t250, A3, H⟩ := sqB H; obtain rfl := Option.some.inj H; go_enter Try.func123, Try.ntmps123; go_wp2_with (first | (refine sqG 100 (some 7) Try.func100 #[.slice A0 l0.length c0, .int .i64 a1] (h := ?_); (with_reducible refine (slices_Index_int64_int64.calls k _ _ l0 a1 t250 _ ?s1 ?s2 A3.out).mono ?_); (case s1 => exact zq22 HR0); (case s2 => exact HC0.out); rintro e w' ⟨rfl, ⟨nd, rfl⟩⟩; refine ⟨_, rfl, ?_⟩)); go_ret; exact ⟨zq4, zq8⟩

/-! ### impl_fitting: function 88 -/
mutual
def impl_fitting.l0 : Nat → List (List Int) → List Int → List Int → Int → Int → Option (List Int × Bool)
  | 0, _, _, _, _, _ => none
  | k + 1, x0, x1, x20, x21, x22 => if x22 < x21 then (if 0 ≤ x22 then (if x22 < (x20.length : Int) then (if (rd x20 x22) = 0 then (impl_fitting.j1 k x0 x1 x22 x20 x21 x22 true) else ((slices_Contains_int64_int64.f k x1 x22).bind fun t253 => (impl_fitting.j1 k x0 x1 x22 x20 x21 x22 t253))) else (none)) else (none)) else (some (([] : List Int), false))
def impl_fitting.j1 : Nat → List (List Int) → List Int → Int → List Int → Int → Int → Bool → Option (List Int × Bool)
  | 0, _, _, _, _, _, _, _ => none
  | k + 1, x0, x1, x6, x20, x21, x22, x33 => if x33 = true then (impl_fitting.l0 k x0 x1 x20 x21 (wrap64 (x22 + 1))) else ((slices_Clone_int64_int64.f x1).bind fun t254 => (if t254.length < 17592186044416 then ((impl_fitting.f k x0 (t254 ++ [x6])).bind fun bt260 => (if bt260.2 = true then (some (bt260.1, true)) else (impl_fitting.l0 k x0 x1 x20 x21 (wrap64 (x22 + 1))))) else (none)))
def impl_fitting.f : Nat → List (List Int) → List Int → Option (List Int × Bool)
  | 0, _, _ => none
  | k + 1, l0, l1 => if (l1.length : Int) = (l0.length : Int) then (some (l1, true)) else (if 0 ≤ (l1.length : Int) then (if (l1.length : Int) < (l0.length : Int) then (impl_fitting.l0 k l0 l1 (rd_L1 l0 (l1.length : Int)) ((rd_L1 l0 (l1.length : Int)).length : Int) 0) else (none)) else (none))
end
theorem impl_fitting.mono_l : ∀ k, (∀ y0 y1, LeO (impl_fitting.f k y0 y1) (impl_fitting.f (k + 1) y0 y1)) ∧ (∀ y0 y1 y2 y3 y4, LeO (impl_fitting.l0 k y0 y1 y2 y3 y4) (impl_fitting.l0 (k + 1) y0 y1 y2 y3 y4)) ∧ (∀ y0 y1 y2 y3 y4 y5 y6, LeO (impl_fitting.j1 k y0 y1 y2 y3 y4 y5 y6) (impl_fitting.j1 (k + 1) y0 y1 y2 y3 y4 y5 y6))
  | 0 => ⟨fun _ _ r h => by simp [impl_fitting.f] at h, fun _ _ _ _ _ r h => by simp [impl_fitting.l0] at h, fun _ _ _ _ _ _ _ r h => by simp [impl_fitting.j1] at h⟩
  | k + 1 => by
   obtain ⟨ih0, ih1, ih2⟩ := impl_fitting.mono_l k
   refine ⟨?_, ?_, ?_⟩ <;> intros
   all_goals first | unfold impl_fitting.f | unfold impl_fitting.l0 | unfold impl_fitting.j1
   all_goals repeat' first | (with_reducible first | apply ih0 | apply ih1 | apply ih2 | apply slices_Contains_int64_int64.mono | exact LeO.refl _ | exact LeO.none _ | refine LeO.ite ?_ ?_ | refine LeO.bind ?_ (fun _ => ?_)) | apply ih0 | apply ih1 | apply ih2 | apply slices_Contains_int64_int64.mono | exact LeO.none _ | refine LeO.ite ?_ ?_ | refine LeO.bind ?_ (fun _ => ?_)
theorem impl_fitting.mono : ∀ a0 a1 k, LeO (impl_fitting.f k a0 a1) (impl_fitting.f (k + 1) a0 a1) := by
  intro a0 a1 k
  obtain ⟨ih0, ih1, ih2⟩ := impl_fitting.mono_l k
  exact ih0 a0 a1
theorem impl_fitting.elem {w : World} {S : Nat → Prop} {A0 : Option Addr} {n : Nat} {xs : List (List Int)} (h : ∀ W', Kept w W' S → (Kd.slice 2 (Kd.int .i64)).C W' A0 n xs) {i : Int} (h0 : 0 ≤ i) (h1 : i < n) {ad : Addr} {A : Option Addr} {c : Nat} (hA : A0 = some ad) (hx : w.cell? (ad.add i.toNat) = some (.slice A (rd_L1 xs i).length c)) : ∀ W', Kept w W' S → (Kd.int .i64).C W' A (rd_L1 xs i).length (rd_L1 xs i) := by
 intro W' hk; have hlt := World.block_lt_of_cell? w _ hx
 have hb : ¬ S (ad.add i.toNat).block := by
  intro hs
  have hk2 : Kept w { w with heap := w.heap.setIfInBounds (ad.add i.toNat).block (.cells #[] 0) } S := ⟨by simp, fun k hk hn => by
   have : (ad.add i.toNat).block ≠ k := fun e => hn (e ▸ hs)
   simp [this]⟩
  obtain ⟨ad2, A2, c2, e2, hx2, _, _⟩ := at_L1 (h _ hk2) i h0 h1; rw [hA] at e2
  injection e2 with e2
  subst e2; unfold World.cell? at hx2; simp [hlt] at hx2
 obtain ⟨ad2, A2, c2, e2, hx2, _, hi2⟩ := at_L1 (h W' hk) i h0 h1; rw [hA] at e2
 injection e2 with e2
 subst e2
 have e3 : W'.cell? (ad.add i.toNat) = w.cell? (ad.add i.toNat) := by
  have := hk.2 _ hlt hb; simp only [World.cell?, this]
 rw [e3, hx] at hx2
 injection hx2 with hx2
 injection hx2 with ha _ _
 subst ha; exact hi2
set_option maxHeartbeats 8000000 in
set_option maxRecDepth 100000 in
theorem impl_fitting.calls (k : Nat) : ∀ (A0 : Option Addr) (c0 : Nat) (l0 : List (List Int)) (P1_ : Nat → Prop) (u9000_ : Value) (l1 : List Int) (r1 : List Int) (r2 : Bool) (w0 w : World) (hB : Below w0.heap.size w0 w) (hr0 : ∀ W_, Kept w W_ (fun k_ => P1_ k_) → Kd.C (Kd.slice 2 (Kd.int .i64)) W_ A0 l0.length l0) (hc0 : l0.length ≤ c0) (ho1 : Kd.R (Kd.int .i64) 2 w w0.heap.size P1_ u9000_ l1) (h : impl_fitting.f k l0 l1 = some (r1, r2)),
    Calls Try.prog 88 #[.slice A0 l0.length c0, u9000_] w fun e w' => ∃ v0_ : Value, e = .returned (.tuple #[v0_, .bool r2]) ∧ Kd.R (Kd.int .i64) 2 w' w0.heap.size (fun k_ => (P1_ k_ ∨ w.heap.size ≤ k_)) v0_ r1 ∧ Below w0.heap.size w0 w' ∧ Kept w w' (fun k_ => P1_ k_) := by
 induction k using Nat.strongRecOn with
 | _ k ih =>
 intro A0 c0 l0 P1_ u9000_ l1 r1 r2 w0 w hB hr0 hc0 ho1 h
 cases k with
 | zero => exact absurd h (by simp [impl_fitting.f])
 | succ k =>
 simp only [impl_fitting.f] at h; have HR0 := mA hr0; have HC0 := mA hc0; clear hr0 hc0; have HO1 := mA (show Kd.R (Kd.int .i64) 2 w w0.heap.size (fun k_ => (P1_ k_ ∨ w.heap.size ≤ k_)) u9000_ l1 from Kd.R_mono ho1 (fun k_ hk => (.inl hk))); have HK := mA (Kept.refl w (fun k_ => P1_ k_)); have HW0 := mA hB.size; have HB := mA hB; clear hB; have H : (if (l1.length : Int) = (l0.length : Int) then (some (l1, true)) else (if 0 ≤ (l1.length : Int) then (if (l1.length : Int) < (l0.length : Int) then (impl_fitting.l0 k l0 l1 (rd_L1 l0 (l1.length : Int)) ((rd_L1 l0 (l1.length : Int)).length : Int) 0) else (none)) else (none))) = some (r1, r2) := h; clear h; by_cases c3 : (l1.length : Int) = (l0.length : Int)
 ·rw [if_pos c3] at H; have c3b0 : ((l1.length : Int) == (l0.length : Int)) = true := beq_iff_eq.mpr c3; have c3b1 : ((l1.length : Int) != (l0.length : Int)) = false := bne_eq_false_iff_eq.mpr c3
  have c3b2 : (l1.length == l0.length) = true := by first | simpa using c3 | (simp at c3 ⊢; omega)
  clear c3; simp only [Option.some.injEq, Prod.mk.injEq] at H; obtain ⟨rfl, rfl⟩ := H; obtain ⟨Ao4, co4, eo4⟩ := Kd.R_slice HO1.out; subst eo4; go_enter Try.func88, Try.ntmps88; go_wp2; go_ret2; exact ⟨_, zq7, zq3 HO1, zq0, zq6⟩
 rw [if_neg c3] at H; have c3b0 : ((l1.length : Int) == (l0.length : Int)) = false := beq_eq_false_iff_ne.mpr c3; have c3b1 : ((l1.length : Int) != (l0.length : Int)) = true := bne_iff_ne.mpr c3
 have c3b2 : (l1.length == l0.length) = false := by first | simpa using c3 | (simp at c3 ⊢; omega)
 obtain ⟨c5, H⟩ := sqI H; have c5b0 := decide_eq_true c5; have c5b1 : decide (0 ≤ l1.length) = true := decide_eq_true (by omega); clear c5; obtain ⟨c6, H⟩ := sqI H; have c6b0 := decide_eq_true c6; have c6b1 : decide (l1.length < l0.length) = true := decide_eq_true (Int.ofNat_lt.mp c6); clear c6; have H' := mA H; clear H; obtain ⟨Ao7, co7, eo7⟩ := Kd.R_slice HO1.out; subst eo7; have p251 : 0 ≤ ((l1.length : Int) : Int) := sqd; have q251 : (l1.length : Int) < (l0.length : Int) := sqd; obtain ⟨ad251, A251_0, c251_0, e251, hx251_0, hl251_0, hi251_0⟩ := at_L1 (Kd.C_kept_now HR0.out HK.out) (l1.length : Int) p251 q251; have HF251 := mA (impl_fitting.elem HR0.out p251 q251 e251 hx251_0)
 cases e251
 have HR251_0 := mA hi251_0; have HC251_0 := mA hl251_0; clear hi251_0 hl251_0; (try simp only [Go.IntWalk.toNatUp] at hx251_0); replace p251 := eq_true p251; replace q251 := eq_true q251; go_enter Try.func88, Try.ntmps88; go_wp2; go_loopg [22] k (fun kq v22 w' => ∃ (x22_1 : Int), v22 = .int .i64 x22_1 ∧ Aside0 (impl_fitting.l0 kq l0 l1 (rd_L1 l0 (l1.length : Int)) ((rd_L1 l0 (l1.length : Int)).length : Int) x22_1 = some (r1, r2)) ∧ Aside0 (kq ≤ k) ∧ Aside0 (Kd.R (Kd.int .i64) 2 w' w0.heap.size (fun k_ => (P1_ k_ ∨ w.heap.size ≤ k_)) (.slice Ao7 l1.length co7) l1) ∧ Aside0 (Kept w w' (fun k_ => P1_ k_)) ∧ Aside0 (Below w0.heap.size w0 w'))
 case atStart => exact ⟨(0), zq4, H', ⟨Nat.le_refl _⟩, ⟨zq3 HO1⟩, ⟨zq6⟩, ⟨zq0⟩⟩
 case round =>
  clear H'; (try clear c3); (try clear c3b0); (try clear c3b1); (try clear c3b2); (try clear c5); (try clear c5b0); (try clear c5b1); (try clear c6); (try clear c6b0); (try clear c6b1); (try clear hx251_0); (try clear p251); (try clear q251); obtain ⟨x22_1, rfl, HA, HK1, HO_1, HK, HB⟩ := hrel
  cases gk with
  | zero => exact absurd HA.out (by simp [impl_fitting.l0])
  | succ k1 =>
   have H := HA.out; clear HA; simp only [impl_fitting.l0] at H; by_cases c8 : x22_1 < ((rd_L1 l0 (l1.length : Int)).length : Int)
   ·rw [if_pos c8] at H; replace c8 := decide_eq_true c8; obtain ⟨c9, H⟩ := sqI H; replace c9 := decide_eq_true c9; obtain ⟨c10, H⟩ := sqI H; replace c10 := decide_eq_true c10; have HC11 := mA H; clear H; have p252 : 0 ≤ (x22_1 : Int) := sqd; have q252 : x22_1 < ((rd_L1 l0 (l1.length : Int)).length : Int) := sqd; obtain ⟨ad252, e252, hx252_0⟩ := Kd.at_int (HF251.out _ HK.out) x22_1 p252 q252
    cases e252
    replace p252 := eq_true p252; replace q252 := eq_true q252
    go_upto_region 6 with (fail)
    go_cut [33] (fun v33 wc => ∃ (kq : Nat) (x33_10 : Bool), v33 = .bool x33_10 ∧ Aside0 (impl_fitting.j1 kq l0 l1 x22_1 (rd_L1 l0 (l1.length : Int)) ((rd_L1 l0 (l1.length : Int)).length : Int) x22_1 x33_10 = some (r1, r2)) ∧ Aside0 (kq ≤ k1) ∧ Aside0 (Kd.R (Kd.int .i64) 2 wc w0.heap.size (fun k_ => (P1_ k_ ∨ w.heap.size ≤ k_)) (.slice Ao7 l1.length co7) l1) ∧ Aside0 (Kept w wc (fun k_ => P1_ k_)) ∧ Aside0 (Below w0.heap.size w0 wc))
    case first =>
     have H := HC11.out; clear HC11; by_cases c12 : (rd (rd_L1 l0 (l1.length : Int)) x22_1) = 0
     ·rw [if_pos c12] at H; have c12b0 : ((rd (rd_L1 l0 (l1.length : Int)) x22_1) == 0) = true := beq_iff_eq.mpr c12; have c12b1 : ((rd (rd_L1 l0 (l1.length : Int)) x22_1) != 0) = false := bne_eq_false_iff_eq.mpr c12; clear c12; (first | rw [c12b0] | (simp only [i64_w, i32_w]; rw [c12b0]) | skip); have H' := mA H; clear H; go_wp2; go_meet
      case rel => exact ⟨_, (true), zq4, H', ⟨by have := HK1.out; first | omega | exact Nat.le_refl _⟩, ⟨zq3 HO_1⟩, ⟨zq6⟩, ⟨zq0⟩⟩
     rw [if_neg c12] at H; have c12b0 : ((rd (rd_L1 l0 (l1.length : Int)) x22_1) == 0) = false := beq_eq_false_iff_ne.mpr c12; have c12b1 : ((rd (rd_L1 l0 (l1.length : Int)) x22_1) != 0) = true := bne_iff_ne.mpr c12; (first | rw [c12b0] | (simp only [i64_w, i32_w]; rw [c12b0]) | skip); obtain ⟨t253, A13, H⟩ := sqB H; have H' := mA H; clear H; go_wp2_with (first | (go_at_call 123; (with_reducible refine (slices_Contains_int64_int64.calls k1 _ _ l1 x22_1 t253 _ ?s1 ?s2 A13.out).mono ?_); (case s1 => exact zq13 HO_1); (case s2 => exact zq14 HO_1); rintro e w' ⟨rfl, ⟨nd, rfl⟩⟩)); go_meet
     case rel => exact ⟨_, (t253), zq4, H', ⟨by have := HK1.out; first | omega | exact Nat.le_refl _⟩, ⟨zq3 HO_1⟩, ⟨zq6⟩, ⟨zq0⟩⟩
    case rest =>
     clear HC11; (try clear c3); (try clear c3b0); (try clear c3b1); (try clear c3b2); (try clear c5); (try clear c5b0); (try clear c5b1); (try clear c6); (try clear c6b0); (try clear c6b1); (try clear c8); (try clear c8b0); (try clear c9); (try clear c9b0); (try clear c10); (try clear c10b0); (try clear hx251_0); (try clear hx252_0); (try clear p251); (try clear p252); (try clear q251); (try clear q252); obtain ⟨kq, x33_10, rfl, HA, HJ10, HO_1, HK, HB⟩ := hcut
     cases kq with
     | zero => exact absurd HA.out (by simp [impl_fitting.j1])
     | succ kj10 =>
      have H := HA.out; clear HA; simp only [impl_fitting.j1] at H; by_cases c14 : x33_10 = true
      ·subst c14; rw [if_pos rfl] at H; have H' := mA H; clear H; go_wp2; go_roundg kj10
       case measure => have := HK1.out; have := HJ10.out; omega
       case rel => exact ⟨(wrap64 (x22_1 + 1)), zq4, H', ⟨zq18 HK1 HJ10⟩, ⟨zq3 HO_1⟩, ⟨zq6⟩, ⟨zq0⟩⟩
      replace c14 := Bool.eq_false_iff.mpr c14; subst c14; rw [if_neg (show ¬ (false = true) by decide)] at H; obtain ⟨t254, A15, H⟩ := sqB H; obtain ⟨c16, H⟩ := sqI H; have LMc16 := mA c16; clear c16; obtain ⟨y257, hy257⟩ : ∃ y_ : List Int, y_ = (t254 ++ [x22_1]) := ⟨_, rfl⟩
      replace H : ((impl_fitting.f kj10 l0 y257).bind fun bt260 => (if bt260.2 = true then (some (bt260.1, true)) else (impl_fitting.l0 kj10 l0 l1 (rd_L1 l0 (l1.length : Int)) ((rd_L1 l0 (l1.length : Int)).length : Int) (wrap64 (x22_1 + 1))))) = some (r1, r2) := by first | (rw [hy257]; with_reducible exact H) | (have H2_ := (Option.bind_some _ _).symm.trans H; rw [hy257]; with_reducible exact H2_) | (have H2_ := (Option.bind_some _ _).symm.trans H; with_reducible exact H2_) | with_reducible exact H | (rw [hy257]; exact H) | exact H
      have Ny257 := mA hy257; clear hy257; obtain ⟨⟨t260, t263⟩, A17, H⟩ := sqB H; dsimp only at H; by_cases c18 : t263 = true
      ·subst c18; rw [if_pos rfl] at H; simp only [Option.some.injEq, Prod.mk.injEq] at H; obtain ⟨rfl, rfl⟩ := H
       go_wp2_with (first | (refine sqG 73 (some 37) Try.func73 #[.slice Ao7 l1.length co7] (h := ?_); (with_reducible refine (slices_Clone_int64_int64.calls _ _ l1 t254 _ ?s1 ?s2 A15.out).mono ?_); (case s1 => exact zq13 HO_1); (case s2 => exact zq14 HO_1); rintro e w19 ⟨v255, rfl, ho0, hb⟩; refine ⟨_, rfl, ?_⟩; have HO256 := mA (Kd.R_lower (Kd.R_new' (Kd.R_newM (M := fun k_ => (P1_ k_ ∨ w.heap.size ≤ k_)) ho0 zq20 (fun k_ h_ => .inr h_)) (Kd.R_lt (zq3 HO_1))) (below_size zq0)); replace HO_1 := mA (Kd.R_elder' (zq3 HO_1) (Kd.R_base ho0) hb); replace HK := mA (Kept.below (S := (fun k_ => P1_ k_)) zq6 hb); replace HB := mA (below_step zq0 hb); (try clear hb ho0)) | ((with_reducible refine gate_builtin (b := .append) (xs := #[.tmp 37, .tmp 39]) rfl ?_); at_builtin; refine Kd.R_append (Kd.int .i64) (w0 := w0) w0.heap.size rfl (.tmp 37) (.tmp 39) 22 2 (.int .i64 0) 8 rfl Try.underlying22 info2 rfl (by decide) (by omega) v255 t254 x22_1 [.int .i64 x22_1] (fun k_ => (P1_ k_ ∨ w.heap.size ≤ k_) ∧ some k_ ≠ (.slice Ao7 l1.length co7 : Value).ownBlock) (fun _ => False) rfl rfl ?aP (fun _ hk => hk.elim) ?aF ?aO ?aB ?aS ?aL ?_; (case aP => exact rfl); (case aB => exact zq19); (case aF => exact zq34 HO_1); (case aO => exact zq35 HO256); (case aS => exact zq24); (case aL => have := LMc16.out; omega); intro v258 w20 ho hb hg hat; rw [← Ny257.out] at ho; replace HO_1 := mA (Kd.R_after (ok := (fun k_ => (P1_ k_ ∨ w.heap.size ≤ k_))) (zq3 HO_1) hg hat); replace HB := mA (hb); replace HK := mA (Kept.of_grown (S := (fun k_ => P1_ k_)) hg zq6 (fun k_ e_ => (HO256.out.1 k_ e_).1.1)); have HO259 := mA (ho); clear HO256 ho hb hg hat; obtain ⟨Ao21, co21, eo21⟩ := Kd.R_slice HO259.out; subst eo21) | (refine sqG 88 (some 41) Try.func88 #[.slice (some ad251) l0.length c0, .slice Ao21 y257.length co21] (h := ?_); (with_reducible refine (ih kj10 (zq18 HK1 HJ10) _ _ l0 (fun k_ => some k_ = (.slice Ao21 y257.length co21 : Value).ownBlock) (.slice Ao21 y257.length co21) y257 t260 true w0 _ ?s1 ?s2 ?s3 ?s4 A17.out).mono ?_); (case s1 => exact zq0); (case s2 => exact zq36 HR0 HO259); (case s3 => exact HC0.out); (case s4 => exact Kd.R_tight rfl HO259.out); rintro e w22 ⟨v261, rfl, ho0, hb, hkp⟩; refine ⟨_, rfl, ?_⟩; have HO262 := mA (Kd.R_mono (ok' := fun k_ => (P1_ k_ ∨ w.heap.size ≤ k_) ∧ some k_ ≠ (.slice Ao7 l1.length co7 : Value).ownBlock) ho0 (fun k_ hk_ => ⟨Or.elim hk_ (fun hs_ => (HO259.out.1 k_ (hs_).symm).1) (fun hn_ => (.inr (Nat.le_trans zq20 hn_))), Or.elim hk_ (fun hs_ => fun e_ => (((HO_1.out).1 k_ e_.symm).2) hs_) (fun hn_ => (Kd.fresh' (Kd.R_lt (zq3 HO_1)) k_ hn_))⟩)); replace HO_1 := mA (Kd.R_mono (ok' := fun k_ => (P1_ k_ ∨ w.heap.size ≤ k_) ∧ some k_ ≠ (v261 : Value).ownBlock) (Kd.R_keptB (HO_1.out) hkp (fun k_ hk_ hs_ => (hk_.2) hs_)) (fun k_ hk_ => ⟨hk_.1.1, fun e_ => Or.elim (ho0.1 k_ e_.symm) (fun hs_ => hk_.2.1 hs_) (fun hn_ => Nat.not_le.2 hk_.2.2 hn_)⟩)); replace HK := mA (Kept.then_ (S := (fun k_ => P1_ k_)) zq6 hkp (fun k_ hs_ => (fun e_ => (HO259.out.1 k_ e_.symm).1) hs_)); replace HB := mA (hb); clear HO259; (try clear hb); (try clear hkp); (try clear ho0)))
       go_ret2; exact ⟨_, zq7, zq33 HO262, zq0, zq6⟩
      replace c18 := Bool.eq_false_iff.mpr c18; subst c18; rw [if_neg (show ¬ (false = true) by decide)] at H; have H' := mA H; clear H
      go_wp2_with (first | (refine sqG 73 (some 37) Try.func73 #[.slice Ao7 l1.length co7] (h := ?_); (with_reducible refine (slices_Clone_int64_int64.calls _ _ l1 t254 _ ?s1 ?s2 A15.out).mono ?_); (case s1 => exact zq13 HO_1); (case s2 => exact zq14 HO_1); rintro e w23 ⟨v255, rfl, ho0, hb⟩; refine ⟨_, rfl, ?_⟩; have HO256 := mA (Kd.R_lower (Kd.R_new' (Kd.R_newM (M := fun k_ => (P1_ k_ ∨ w.heap.size ≤ k_)) ho0 zq20 (fun k_ h_ => .inr h_)) (Kd.R_lt (zq3 HO_1))) (below_size zq0)); replace HO_1 := mA (Kd.R_elder' (zq3 HO_1) (Kd.R_base ho0) hb); replace HK := mA (Kept.below (S := (fun k_ => P1_ k_)) zq6 hb); replace HB := mA (below_step zq0 hb); (try clear hb ho0)) | ((with_reducible refine gate_builtin (b := .append) (xs := #[.tmp 37, .tmp 39]) rfl ?_); at_builtin; refine Kd.R_append (Kd.int .i64) (w0 := w0) w0.heap.size rfl (.tmp 37) (.tmp 39) 22 2 (.int .i64 0) 8 rfl Try.underlying22 info2 rfl (by decide) (by omega) v255 t254 x22_1 [.int .i64 x22_1] (fun k_ => (P1_ k_ ∨ w.heap.size ≤ k_) ∧ some k_ ≠ (.slice Ao7 l1.length co7 : Value).ownBlock) (fun _ => False) rfl rfl ?aP (fun _ hk => hk.elim) ?aF ?aO ?aB ?aS ?aL ?_; (case aP => exact rfl); (case aB => exact zq19); (case aF => exact zq34 HO_1); (case aO => exact zq35 HO256); (case aS => exact zq24); (case aL => have := LMc16.out; omega); intro v258 w24 ho hb hg hat; rw [← Ny257.out] at ho; replace HO_1 := mA (Kd.R_after (ok := (fun k_ => (P1_ k_ ∨ w.heap.size ≤ k_))) (zq3 HO_1) hg hat); replace HB := mA (hb); replace HK := mA (Kept.of_grown (S := (fun k_ => P1_ k_)) hg zq6 (fun k_ e_ => (HO256.out.1 k_ e_).1.1)); have HO259 := mA (ho); clear HO256 ho hb hg hat; obtain ⟨Ao25, co25, eo25⟩ := Kd.R_slice HO259.out; subst eo25) | (refine sqG 88 (some 41) Try.func88 #[.slice (some ad251) l0.length c0, .slice Ao25 y257.length co25] (h := ?_); (with_reducible refine (ih kj10 (zq18 HK1 HJ10) _ _ l0 (fun k_ => some k_ = (.slice Ao25 y257.length co25 : Value).ownBlock) (.slice Ao25 y257.length co25) y257 t260 false w0 _ ?s1 ?s2 ?s3 ?s4 A17.out).mono ?_); (case s1 => exact zq0); (case s2 => exact zq36 HR0 HO259); (case s3 => exact HC0.out); (case s4 => exact Kd.R_tight rfl HO259.out); rintro e w26 ⟨v261, rfl, ho0, hb, hkp⟩; refine ⟨_, rfl, ?_⟩; have HO262 := mA (Kd.R_mono (ok' := fun k_ => (P1_ k_ ∨ w.heap.size ≤ k_) ∧ some k_ ≠ (.slice Ao7 l1.length co7 : Value).ownBlock) ho0 (fun k_ hk_ => ⟨Or.elim hk_ (fun hs_ => (HO259.out.1 k_ (hs_).symm).1) (fun hn_ => (.inr (Nat.le_trans zq20 hn_))), Or.elim hk_ (fun hs_ => fun e_ => (((HO_1.out).1 k_ e_.symm).2) hs_) (fun hn_ => (Kd.fresh' (Kd.R_lt (zq3 HO_1)) k_ hn_))⟩)); replace HO_1 := mA (Kd.R_mono (ok' := fun k_ => (P1_ k_ ∨ w.heap.size ≤ k_) ∧ some k_ ≠ (v261 : Value).ownBlock) (Kd.R_keptB (HO_1.out) hkp (fun k_ hk_ hs_ => (hk_.2) hs_)) (fun k_ hk_ => ⟨hk_.1.1, fun e_ => Or.elim (ho0.1 k_ e_.symm) (fun hs_ => hk_.2.1 hs_) (fun hn_ => Nat.not_le.2 hk_.2.2 hn_)⟩)); replace HK := mA (Kept.then_ (S := (fun k_ => P1_ k_)) zq6 hkp (fun k_ hs_ => (fun e_ => (HO259.out.1 k_ e_.symm).1) hs_)); replace HB := mA (hb); clear HO259; (try clear hb); (try clear hkp); (try clear ho0)))
      go_roundg kj10
      case measure => have := HK1.out; have := HJ10.out; omega
      case rel => exact ⟨(wrap64 (x22_1 + 1)), zq4, H', ⟨zq18 HK1 HJ10⟩, ⟨zq33 HO_1⟩, ⟨zq6⟩, ⟨zq0⟩⟩
   rw [if_neg c8] at H; replace c8 := decide_eq_false c8; simp only [Option.some.injEq, Prod.mk.injEq] at H; obtain ⟨rfl, rfl⟩ := H; go_wp2; go_ret2; exact ⟨_, zq7, zq41, zq0, zq6⟩

/-! ### slices_Equal_int64_int64: function 113 -/
def slices_Equal_int64_int64.l0 : Nat → List Int → List Int → Int → Int → Option (Bool)
  | 0, _, _, _, _ => none
  | k + 1, x0, x1, x12, x13 => if x13 < x12 then (if 0 ≤ x13 then (if x13 < (x0.length : Int) then (if x13 < (x1.length : Int) then (if (rd x0 x13) = (rd x1 x13) then (slices_Equal_int64_int64.l0 k x0 x1 x12 (wrap64 (x13 + 1))) else (some false)) else (none)) else (none)) else (none)) else (some true)
def slices_Equal_int64_int64.f (k : Nat) (l0 : List Int) (l1 : List Int) : Option (Bool) := if (l0.length : Int) = (l1.length : Int) then (slices_Equal_int64_int64.l0 k l0 l1 (l0.length : Int) 0) else (some false)
theorem slices_Equal_int64_int64.mono_l : ∀ k, (∀ y0 y1 y2 y3, LeO (slices_Equal_int64_int64.l0 k y0 y1 y2 y3) (slices_Equal_int64_int64.l0 (k + 1) y0 y1 y2 y3))
  | 0 => fun _ _ _ _ r h => by simp [slices_Equal_int64_int64.l0] at h
  | k + 1 => by
   have ih0 := slices_Equal_int64_int64.mono_l k
   intros
   unfold slices_Equal_int64_int64.l0
   all_goals repeat' first | (with_reducible first | apply ih0 | exact LeO.refl _ | exact LeO.none _ | refine LeO.ite ?_ ?_ | refine LeO.bind ?_ (fun _ => ?_)) | apply ih0 | exact LeO.none _ | refine LeO.ite ?_ ?_ | refine LeO.bind ?_ (fun _ => ?_)
theorem slices_Equal_int64_int64.mono : ∀ a0 a1 k, LeO (slices_Equal_int64_int64.f k a0 a1) (slices_Equal_int64_int64.f (k + 1) a0 a1) := by
  intro a0 a1 k
  have ih0 := slices_Equal_int64_int64.mono_l k
  unfold slices_Equal_int64_int64.f
  repeat' first | (with_reducible first | apply ih0 | exact LeO.refl _ | exact LeO.none _ | refine LeO.ite ?_ ?_ | refine LeO.bind ?_ (fun _ => ?_)) | apply ih0 | exact LeO.none _ | refine LeO.ite ?_ ?_ | refine LeO.bind ?_ (fun _ => ?_)
set_option maxHeartbeats 8000000 in
set_option maxRecDepth 100000 in
theorem slices_Equal_int64_int64.calls (k : Nat) (A0 : Option Addr) (c0 : Nat) (l0 : List Int) (A1 : Option Addr) (c1 : Nat) (l1 : List Int) (r : Bool) (w : World) (hr0 : Kd.C (Kd.int .i64) w A0 l0.length l0) (hc0 : l0.length ≤ c0) (hr1 : Kd.C (Kd.int .i64) w A1 l1.length l1) (hc1 : l1.length ≤ c1) (h : slices_Equal_int64_int64.f k l0 l1 = some r) :
    Calls Try.prog 113 #[.slice A0 l0.length c0, .slice A1 l1.length c1] w fun e w' => e = .returned (.bool r) ∧ Drawn0 w w' := by
 have HR0 := mA hr0; have HC0 := mA hc0; clear hr0 hc0; have HR1 := mA hr1; have HC1 := mA hc1; clear hr1 hc1; have H : (if (l0.length : Int) = (l1.length : Int) then (slices_Equal_int64_int64.l0 k l0 l1 (l0.length : Int) 0) else (some false)) = some r := h; clear h; refine sqC ((l0.length : Int) = (l1.length : Int)) (fun c3 => ?_) (fun c3 => ?_)
 ·rw [if_neg c3] at H; have c3b0 : ((l0.length : Int) == (l1.length : Int)) = false := beq_eq_false_iff_ne.mpr c3; have c3b1 : ((l0.length : Int) != (l1.length : Int)) = true := bne_iff_ne.mpr c3
  have c3b2 : (l0.length == l1.length) = false := by first | simpa using c3 | (simp at c3 ⊢; omega)
  obtain rfl := Option.some.inj H; go_enter Try.func113, Try.ntmps113; go_wp2
  repeat (go_quiet (fail); try go_wp2)
  go_ret; exact ⟨zq4, zq8⟩
 rw [if_pos c3] at H; have c3b0 : ((l0.length : Int) == (l1.length : Int)) = true := beq_iff_eq.mpr c3; have c3b1 : ((l0.length : Int) != (l1.length : Int)) = false := bne_eq_false_iff_eq.mpr c3
 have c3b2 : (l0.length == l1.length) = true := by first | simpa using c3 | (simp at c3 ⊢; omega)
 clear c3; have H' := mA H; clear H; go_enter Try.func113, Try.ntmps113; go_wp2
 repeat (go_quiet (fail); try go_wp2)
 go_loopg [13] k (fun kq v13 w' => ∃ (x13_1 : Int), v13 = .int .i64 x13_1 ∧ Aside0 (slices_Equal_int64_int64.l0 kq l0 l1 (l0.length : Int) x13_1 = some r) ∧ Aside0 (kq ≤ k) ∧ Drawn0 w w')
 case atStart => exact ⟨(0), zq4, H', ⟨Nat.le_refl _⟩, zq8⟩
 case round =>
  clear H'; (try clear c1); (try clear c3); (try clear c3b0); (try clear c3b1); (try clear c3b2); obtain ⟨x13_1, rfl, HA, HK1, ⟨m1, rfl⟩⟩ := hrel
  cases gk with
  | zero => exact absurd HA.out (by simp [slices_Equal_int64_int64.l0])
  | succ k1 =>
   have H := HA.out; clear HA; simp only [slices_Equal_int64_int64.l0] at H; refine sqC (x13_1 < (l0.length : Int)) (fun c4 => ?_) (fun c4 => ?_)
   ·rw [if_neg c4] at H; have c4b0 : decide (x13_1 < (l0.length : Int)) = false := decide_eq_false c4; clear c4; obtain rfl := Option.some.inj H; go_wp2
    repeat (go_quiet (fail); try go_wp2)
    go_ret; exact ⟨zq4, zq8⟩
   rw [if_pos c4] at H; have c4b0 : decide (x13_1 < (l0.length : Int)) = true := decide_eq_true c4; clear c4; obtain ⟨c5, H⟩ := sqI H; replace c5 := decide_eq_true c5; obtain ⟨c6, H⟩ := sqI H; replace c6 := decide_eq_true c6; obtain ⟨c7, H⟩ := sqI H; replace c7 := decide_eq_true c7; refine sqC ((rd l0 x13_1) = (rd l1 x13_1)) (fun c8 => ?_) (fun c8 => ?_)
   ·rw [if_neg c8] at H; have c8b0 : ((rd l0 x13_1) == (rd l1 x13_1)) = false := beq_eq_false_iff_ne.mpr c8; have c8b1 : ((rd l0 x13_1) != (rd l1 x13_1)) = true := bne_iff_ne.mpr c8; obtain rfl := Option.some.inj H; have p264 : 0 ≤ (x13_1 : Int) := sqd; have q264 : x13_1 < (l0.length : Int) := sqd; obtain ⟨ad264, e264, hx264_0⟩ := Kd.at_int HR0.out x13_1 p264 q264
    cases e264
    replace p264 := eq_true p264; replace q264 := eq_true q264; have p265 : 0 ≤ (x13_1 : Int) := sqd; have q265 : x13_1 < (l1.length : Int) := sqd; obtain ⟨ad265, e265, hx265_0⟩ := Kd.at_int HR1.out x13_1 p265 q265
    cases e265
    replace p265 := eq_true p265; replace q265 := eq_true q265; go_wp2
    repeat (go_quiet (fail); try go_wp2)
    go_ret; exact ⟨zq4, zq8⟩
   rw [if_pos c8] at H; have c8b0 : ((rd l0 x13_1) == (rd l1 x13_1)) = true := beq_iff_eq.mpr c8; have c8b1 : ((rd l0 x13_1) != (rd l1 x13_1)) = false := bne_eq_false_iff_eq.mpr c8; clear c8; have H' := mA H; clear H; have p264 : 0 ≤ (x13_1 : Int) := sqd; have q264 : x13_1 < (l0.length : Int) := sqd; obtain ⟨ad264, e264, hx264_0⟩ := Kd.at_int HR0.out x13_1 p264 q264
   cases e264
   replace p264 := eq_true p264; replace q264 := eq_true q264; have p265 : 0 ≤ (x13_1 : Int) := sqd; have q265 : x13_1 < (l1.length : Int) := sqd; obtain ⟨ad265, e265, hx265_0⟩ := Kd.at_int HR1.out x13_1 p265 q265
   cases e265
   replace p265 := eq_true p265; replace q265 := eq_true q265; go_wp2
   repeat (go_quiet (fail); try go_wp2)
   go_roundg k1
   case measure => have := HK1.out; omega
   case rel => exact ⟨(wrap64 (x13_1 + 1)), zq4, H', ⟨by have := HK1.out; omega⟩, zq8⟩

-- told with its function values: function 124 (impl_Mixture_addTo_1)

/-! ### impl_Mixture_addTo_1: function 124 -/
def impl_Mixture_addTo_1.f (k : Nat) (l0 : List Int) (l1_0 : List Int) : Option (Bool) := (slices_Equal_int64_int64.f k l0 l1_0).bind fun t266 => (some t266)
theorem impl_Mixture_addTo_1.mono : ∀ a0 a1 k, LeO (impl_Mixture_addTo_1.f k a0 a1) (impl_Mixture_addTo_1.f (k + 1) a0 a1) := by
  intro a0 a1 k
  unfold impl_Mixture_addTo_1.f
  repeat' first | (with_reducible first | apply slices_Equal_int64_int64.mono | exact LeO.refl _ | exact LeO.none _ | refine LeO.ite ?_ ?_ | refine LeO.bind ?_ (fun _ => ?_)) | apply slices_Equal_int64_int64.mono | exact LeO.none _ | refine LeO.ite ?_ ?_ | refine LeO.bind ?_ (fun _ => ?_)
set_option maxHeartbeats 8000000 in
set_option maxRecDepth 100000 in
theorem impl_Mixture_addTo_1.calls (k : Nat) (A0 : Option Addr) (c0 : Nat) (l0 : List Int) (gv1_0_ : Nat) (A1_0 : Option Addr) (c1_0 : Nat) (l1_0 : List Int) (r : Bool) (w : World) (hr0 : Kd.C (Kd.int .i64) w A0 l0.length l0) (hc0 : l0.length ≤ c0) (hbx1_0_ : w.heap[gv1_0_]? = some (.cells #[.slice A1_0 l1_0.length c1_0] 22 (0, 0))) (hr1_0 : Kd.C (Kd.int .i64) w A1_0 l1_0.length l1_0) (hc1_0 : l1_0.length ≤ c1_0) (h : impl_Mixture_addTo_1.f k l0 l1_0 = some r) :
    Calls Try.prog 124 #[.slice A0 l0.length c0, .pointer (some ⟨gv1_0_, 0, none⟩)] w fun e w' => e = .returned (.bool r) ∧ Below w.heap.size w w' := by
 have HR0 := mA hr0; have HC0 := mA hc0; clear hr0 hc0; have HR1_0 := mA hr1_0; have HC1_0 := mA hc1_0; clear hr1_0 hc1_0; have BK46 := mA hbx1_0_; clear hbx1_0_; have HB := mA (Below.refl w.heap.size w); have H : ((slices_Equal_int64_int64.f k l0 l1_0).bind fun t266 => (some t266)) = some r := h; clear h; obtain ⟨t266, A3, H⟩ := sqB H; obtain rfl := Option.some.inj H; have hcz4_0 := sqZ0 BK46; have hfz4_0 := blk_frozen BK46.out 0; go_enter Try.func124, Try.ntmps124; go_wp2_with (first | (refine sqG 113 (some 6) Try.func113 #[.slice A0 l0.length c0, .slice A1_0 l1_0.length c1_0] (h := ?_); (with_reducible refine (slices_Equal_int64_int64.calls k _ _ l0 _ _ l1_0 t266 _ ?s1 ?s2 ?s3 ?s4 A3.out).mono ?_); (case s1 => exact zq22 HR0); (case s2 => exact HC0.out); (case s3 => exact zq22 HR1_0); (case s4 => exact HC1_0.out); rintro e w' ⟨rfl, ⟨nd, rfl⟩⟩; refine ⟨_, rfl, ?_⟩)); go_ret; exact ⟨zq7, zq2⟩

end Go.Proofs.Ytlhpejabdmejbaa.PFnExactPermutationMixture
