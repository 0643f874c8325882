/- Written by this session's program (wip/tool/xprint.py) over the kit's printer. -/
import Derived.Test.YtdcglkdgepdnpaaPFnExactNearestTablex0
import Derived.Test.YtdcglkdgepdnpaaPFnExactNearestTablex10
namespace Go.Proofs.Ytdcglkdgepdnpaa.PFnExactNearestTable
open Go.RowKit Go.Proofs.YtdcglkdgepdnpaaW.PrintWords Go.Proofs.YtdcglkdgepdnpaaW.PrintLast Go.Proofs.YtdcglkdgepdnpaaW.PrintMore
attribute [local go_sem] max2_int min2_int max_two min_two max_three min_three max_four min_four   -- for this text's walks alone
set_option linter.unusedVariables false
set_option linter.unusedSimpArgs false

/-! ### impl_areWithin_1: function 66 -/
def impl_areWithin_1.f (a0 : Int) (a1_0 : Int) (a2_0 : Int) : Option (Bool) := (impl_within.f a0 a1_0 a2_0).bind fun t249 => (some (!t249))
set_option maxHeartbeats 8000000 in
set_option maxRecDepth 100000 in
theorem impl_areWithin_1.calls (a0 : Int) (gv1_0_ : Nat) (a1_0 : Int) (gv2_0_ : Nat) (a2_0 : Int) (r : Bool) (w : World) (hbx1_0_ : w.heap[gv1_0_]? = some (.cells #[.int .i64 a1_0] 2 (0, 0))) (hbx2_0_ : w.heap[gv2_0_]? = some (.cells #[.int .i64 a2_0] 2 (0, 0))) (h : impl_areWithin_1.f a0 a1_0 a2_0 = some r) :
    Calls Try.prog 66 #[.int .i64 a0, .pointer (some ⟨gv1_0_, 0, none⟩), .pointer (some ⟨gv2_0_, 0, none⟩)] w fun e w' => e = .returned (.bool r) ∧ Below w.heap.size w w' := by
 have BK46 := mA hbx1_0_; clear hbx1_0_; have BK52 := mA hbx2_0_; clear hbx2_0_; have HB := mA (Below.refl w.heap.size w); have H : ((impl_within.f a0 a1_0 a2_0).bind fun t249 => (some (!t249))) = some r := h; clear h; obtain ⟨t249, A4, H⟩ := sqB H; obtain rfl := Option.some.inj H; obtain ⟨hcz5_0, hfz5_0⟩ := sqW0 BK46; obtain ⟨hcz6_0, hfz6_0⟩ := sqW0 BK52; go_enter Try.func66, Try.ntmps66; go_wp2_with (first | (refine sqG 52 (some 8) Try.func52 #[.int .i64 a0, .int .i64 a1_0, .int .i64 a2_0] (h := ?_); (with_reducible refine (impl_within.calls a0 a1_0 a2_0 t249 _ A4.out).mono ?_); rintro e w' ⟨rfl, ⟨nd, rfl⟩⟩; refine ⟨_, rfl, ?_⟩)); go_ret; exact ⟨zq6, zq1⟩

/-! ### slices_IndexFunc_int64_int64_impl_areWithin_1: function 69 -/
def slices_IndexFunc_int64_int64_impl_areWithin_1.l0 : Nat → List Int → Int → Int → Int → Int → Option (Int)
  | 0, _, _, _, _, _ => none
  | k + 1, x0, x7, x8, x47000, x48000 => if x8 < x7 then (if 0 ≤ x8 then (if x8 < (x0.length : Int) then ((impl_areWithin_1.f (rd x0 x8) x47000 x48000).bind fun t251 => (if t251 = true then (some x8) else (slices_IndexFunc_int64_int64_impl_areWithin_1.l0 k x0 x7 (wrap64 (x8 + 1)) x47000 x48000))) else (none)) else (none)) else (some (-1))
def slices_IndexFunc_int64_int64_impl_areWithin_1.f (k : Nat) (l0 : List Int) (a1_0 : Int) (a1_1 : Int) : Option (Int) := slices_IndexFunc_int64_int64_impl_areWithin_1.l0 k l0 (l0.length : Int) 0 a1_0 a1_1
theorem slices_IndexFunc_int64_int64_impl_areWithin_1.mono_l : ∀ k, (∀ y0 y1 y2 y3 y4, LeO (slices_IndexFunc_int64_int64_impl_areWithin_1.l0 k y0 y1 y2 y3 y4) (slices_IndexFunc_int64_int64_impl_areWithin_1.l0 (k + 1) y0 y1 y2 y3 y4))
  | 0 => fun _ _ _ _ _ r h => by simp [slices_IndexFunc_int64_int64_impl_areWithin_1.l0] at h
  | k + 1 => by
   have ih0 := slices_IndexFunc_int64_int64_impl_areWithin_1.mono_l k
   intros
   unfold slices_IndexFunc_int64_int64_impl_areWithin_1.l0
   all_goals repeat' first | (with_reducible first | apply ih0 | exact LeO.refl _ | exact LeO.none _ | refine LeO.ite ?_ ?_ | refine LeO.bind ?_ (fun _ => ?_)) | apply ih0 | exact LeO.none _ | refine LeO.ite ?_ ?_ | refine LeO.bind ?_ (fun _ => ?_)
theorem slices_IndexFunc_int64_int64_impl_areWithin_1.mono : ∀ a0 a1 a2 k, LeO (slices_IndexFunc_int64_int64_impl_areWithin_1.f k a0 a1 a2) (slices_IndexFunc_int64_int64_impl_areWithin_1.f (k + 1) a0 a1 a2) := by
  intro a0 a1 a2 k
  have ih0 := slices_IndexFunc_int64_int64_impl_areWithin_1.mono_l k
  unfold slices_IndexFunc_int64_int64_impl_areWithin_1.f
  repeat' first | (with_reducible first | apply ih0 | exact LeO.refl _ | exact LeO.none _ | refine LeO.ite ?_ ?_ | refine LeO.bind ?_ (fun _ => ?_)) | apply ih0 | exact LeO.none _ | refine LeO.ite ?_ ?_ | refine LeO.bind ?_ (fun _ => ?_)
set_option maxHeartbeats 8000000 in
set_option maxRecDepth 100000 in
theorem slices_IndexFunc_int64_int64_impl_areWithin_1.calls (k : Nat) (A0 : Option Addr) (c0 : Nat) (l0 : List Int) (gv1_0_ : Nat) (gv1_1_ : Nat) (a1_0 : Int) (a1_1 : Int) (r : Int) (w : World) (hr0 : Kd.C (Kd.int .i64) w A0 l0.length l0) (hc0 : l0.length ≤ c0) (hbx1_0_ : w.heap[gv1_0_]? = some (.cells #[.int .i64 a1_0] 2 (0, 0))) (hbx1_1_ : w.heap[gv1_1_]? = some (.cells #[.int .i64 a1_1] 2 (0, 0))) (h : slices_IndexFunc_int64_int64_impl_areWithin_1.f k l0 a1_0 a1_1 = some r) :
    Calls Try.prog 69 #[.slice A0 l0.length c0, .func (.func 66) #[] #[.pointer (some ⟨gv1_0_, 0, none⟩), .pointer (some ⟨gv1_1_, 0, none⟩)]] w fun e w' => e = .returned (.int .i64 r) ∧ Below w.heap.size w w' := by
 have HR0 := mA hr0; have HC0 := mA hc0; clear hr0 hc0; have BK46 := mA hbx1_0_; clear hbx1_0_; have BK47 := mA hbx1_1_; clear hbx1_1_; have HB := mA (Below.refl w.heap.size w); have H : (slices_IndexFunc_int64_int64_impl_areWithin_1.l0 k l0 (l0.length : Int) 0 a1_0 a1_1) = some r := h; clear h; have H' := mA H; clear H; go_enter Try.func69, Try.ntmps69; go_wp2; go_loopg [8] k (fun kq v8 w' => ∃ (x8_1 : Int), v8 = .int .i64 x8_1 ∧ Aside0 (slices_IndexFunc_int64_int64_impl_areWithin_1.l0 kq l0 (l0.length : Int) x8_1 a1_0 a1_1 = some r) ∧ Aside0 (kq ≤ k) ∧ Aside0 (w'.heap[gv1_0_]? = some (.cells #[.int .i64 a1_0] 2 (0, 0))) ∧ Aside0 (w'.heap[gv1_1_]? = some (.cells #[.int .i64 a1_1] 2 (0, 0))) ∧ Aside0 (Below w.heap.size w w'))
 case atStart => exact ⟨(0), zq4, H', ⟨Nat.le_refl _⟩, ⟨zq0 BK46⟩, ⟨zq0 BK47⟩, ⟨zq1⟩⟩
 case round =>
  clear H'; obtain ⟨x8_1, rfl, HA, HK1, BK46, BK47, HB⟩ := hrel
  cases gk with
  | zero => exact absurd HA.out (by simp [slices_IndexFunc_int64_int64_impl_areWithin_1.l0])
  | succ k1 =>
   have H := HA.out; clear HA; simp only [slices_IndexFunc_int64_int64_impl_areWithin_1.l0] at H; refine sqC (x8_1 < (l0.length : Int)) (fun c3 => ?_) (fun c3 => ?_)
   ·rw [if_neg c3] at H; have c3b0 : decide (x8_1 < (l0.length : Int)) = false := decide_eq_false c3; clear c3; obtain rfl := Option.some.inj H; go_wp2; go_ret; exact ⟨zq6, zq1⟩
   rw [if_pos c3] at H; have c3b0 : decide (x8_1 < (l0.length : Int)) = true := decide_eq_true c3; clear c3; obtain ⟨c4, H⟩ := sqI H; have c4b0 : decide (0 ≤ x8_1) = true := decide_eq_true c4; clear c4; obtain ⟨c5, H⟩ := sqI H; replace c5 := decide_eq_true c5; obtain ⟨t251, A6, H⟩ := sqB H; by_cases c7 : t251 = true
   ·subst c7; rw [if_pos rfl] at H; obtain rfl := Option.some.inj H; have p250 : 0 ≤ (x8_1 : Int) := sqd; have q250 : x8_1 < (l0.length : Int) := sqd; obtain ⟨ad250, e250, hx250_0⟩ := Kd.at_int HR0.out x8_1 p250 q250
    cases e250
    replace hx250_0 := sqh HB hx250_0; replace p250 := eq_true p250; replace q250 := eq_true q250; go_wp2_with (first | (go_at_call 66; (with_reducible refine (impl_areWithin_1.calls (rd l0 x8_1) gv1_0_ a1_0 gv1_1_ a1_1 true _ ?s1 ?s2 A6.out).mono ?_); (case s1 => exact zq17 BK46); (case s2 => exact zq17 BK47); rintro e w8 ⟨rfl, hb⟩; replace BK46 := mA (blkb hb BK46.out); replace BK47 := mA (blkb hb BK47.out); replace HB := mA (below_step zq1 hb); (try clear hb))); go_ret; exact ⟨zq6, zq1⟩
   replace c7 := Bool.eq_false_iff.mpr c7; subst c7; rw [if_neg (show ¬ (false = true) by decide)] at H; have H' := mA H; clear H; have p250 : 0 ≤ (x8_1 : Int) := sqd; have q250 : x8_1 < (l0.length : Int) := sqd; obtain ⟨ad250, e250, hx250_0⟩ := Kd.at_int HR0.out x8_1 p250 q250
   cases e250
   replace hx250_0 := sqh HB hx250_0; replace p250 := eq_true p250; replace q250 := eq_true q250; go_wp2_with (first | (go_at_call 66; (with_reducible refine (impl_areWithin_1.calls (rd l0 x8_1) gv1_0_ a1_0 gv1_1_ a1_1 false _ ?s1 ?s2 A6.out).mono ?_); (case s1 => exact zq17 BK46); (case s2 => exact zq17 BK47); rintro e w9 ⟨rfl, hb⟩; replace BK46 := mA (blkb hb BK46.out); replace BK47 := mA (blkb hb BK47.out); replace HB := mA (below_step zq1 hb); (try clear hb))); go_roundg k1
   case measure => have := HK1.out; omega
   case rel => exact ⟨(wrap64 (x8_1 + 1)), zq4, H', ⟨zq25 HK1⟩, ⟨zq0 BK46⟩, ⟨zq0 BK47⟩, ⟨zq1⟩⟩

/-! ### slices_ContainsFunc_int64_int64_impl_areWithin_1: function 65 -/
def slices_ContainsFunc_int64_int64_impl_areWithin_1.f (k : Nat) (l0 : List Int) (a1_0 : Int) (a1_1 : Int) : Option (Bool) := (slices_IndexFunc_int64_int64_impl_areWithin_1.f k l0 a1_0 a1_1).bind fun t252 => (some (decide (t252 ≥ 0)))
theorem slices_ContainsFunc_int64_int64_impl_areWithin_1.mono : ∀ a0 a1 a2 k, LeO (slices_ContainsFunc_int64_int64_impl_areWithin_1.f k a0 a1 a2) (slices_ContainsFunc_int64_int64_impl_areWithin_1.f (k + 1) a0 a1 a2) := by
  intro a0 a1 a2 k
  unfold slices_ContainsFunc_int64_int64_impl_areWithin_1.f
  repeat' first | (with_reducible first | apply slices_IndexFunc_int64_int64_impl_areWithin_1.mono | exact LeO.refl _ | exact LeO.none _ | refine LeO.ite ?_ ?_ | refine LeO.bind ?_ (fun _ => ?_)) | apply slices_IndexFunc_int64_int64_impl_areWithin_1.mono | exact LeO.none _ | refine LeO.ite ?_ ?_ | refine LeO.bind ?_ (fun _ => ?_)
set_option maxHeartbeats 8000000 in
set_option maxRecDepth 100000 in
theorem slices_ContainsFunc_int64_int64_impl_areWithin_1.calls (k : Nat) (A0 : Option Addr) (c0 : Nat) (l0 : List Int) (gv1_0_ : Nat) (gv1_1_ : Nat) (a1_0 : Int) (a1_1 : Int) (r : Bool) (w : World) (hr0 : Kd.C (Kd.int .i64) w A0 l0.length l0) (hc0 : l0.length ≤ c0) (hbx1_0_ : w.heap[gv1_0_]? = some (.cells #[.int .i64 a1_0] 2 (0, 0))) (hbx1_1_ : w.heap[gv1_1_]? = some (.cells #[.int .i64 a1_1] 2 (0, 0))) (h : slices_ContainsFunc_int64_int64_impl_areWithin_1.f k l0 a1_0 a1_1 = some r) :
    Calls Try.prog 65 #[.slice A0 l0.length c0, .func (.func 66) #[] #[.pointer (some ⟨gv1_0_, 0, none⟩), .pointer (some ⟨gv1_1_, 0, none⟩)]] w fun e w' => e = .returned (.bool r) ∧ Below w.heap.size w w' := by
 have HR0 := mA hr0; have HC0 := mA hc0; clear hr0 hc0; have BK46 := mA hbx1_0_; clear hbx1_0_; have BK47 := mA hbx1_1_; clear hbx1_1_; have HB := mA (Below.refl w.heap.size w); have H : ((slices_IndexFunc_int64_int64_impl_areWithin_1.f k l0 a1_0 a1_1).bind fun t252 => (some (decide (t252 ≥ 0)))) = some r := h; clear h; obtain ⟨t252, A3, H⟩ := sqB H; obtain rfl := Option.some.inj H; go_enter Try.func65, Try.ntmps65; go_wp2_with (first | (refine sqG 69 (some 7) Try.func69 #[.slice A0 l0.length c0, .func (.func 66) #[] #[.pointer (some ⟨gv1_0_, 0, none⟩), .pointer (some ⟨gv1_1_, 0, none⟩)]] (h := ?_); (with_reducible refine (slices_IndexFunc_int64_int64_impl_areWithin_1.calls k _ _ l0 gv1_0_ gv1_1_ a1_0 a1_1 t252 _ ?s1 ?s2 ?s3 ?s4 A3.out).mono ?_); (case s1 => exact zq22 HR0); (case s2 => exact HC0.out); (case s3 => exact zq17 BK46); (case s4 => exact zq17 BK47); rintro e w4 ⟨rfl, hb⟩; refine ⟨_, rfl, ?_⟩; replace BK46 := mA (blkb hb BK46.out); replace BK47 := mA (blkb hb BK47.out); replace HB := mA (below_step zq1 hb); (try clear hb))); go_ret; exact ⟨zq6, zq1⟩

/-! ### impl_areWithin: function 57 -/
def impl_areWithin.f (k : Nat) (l0 : List Int) (a1 : Int) (a2 : Int) : Option (Bool) := (slices_ContainsFunc_int64_int64_impl_areWithin_1.f k l0 a1 a2).bind fun t255 => (some (!t255))
theorem impl_areWithin.mono : ∀ a0 a1 a2 k, LeO (impl_areWithin.f k a0 a1 a2) (impl_areWithin.f (k + 1) a0 a1 a2) := by
  intro a0 a1 a2 k
  unfold impl_areWithin.f
  repeat' first | (with_reducible first | apply slices_ContainsFunc_int64_int64_impl_areWithin_1.mono | exact LeO.refl _ | exact LeO.none _ | refine LeO.ite ?_ ?_ | refine LeO.bind ?_ (fun _ => ?_)) | apply slices_ContainsFunc_int64_int64_impl_areWithin_1.mono | exact LeO.none _ | refine LeO.ite ?_ ?_ | refine LeO.bind ?_ (fun _ => ?_)
set_option maxHeartbeats 8000000 in
set_option maxRecDepth 100000 in
theorem impl_areWithin.calls (k : Nat) (A0 : Option Addr) (c0 : Nat) (l0 : List Int) (a1 : Int) (a2 : Int) (r : Bool) (w : World) (hr0 : Kd.C (Kd.int .i64) w A0 l0.length l0) (hc0 : l0.length ≤ c0) (h : impl_areWithin.f k l0 a1 a2 = some r) :
    Calls Try.prog 57 #[.slice A0 l0.length c0, .int .i64 a1, .int .i64 a2] w fun e w' => e = .returned (.bool r) ∧ Below w.heap.size w w' := by
 have HR0 := mA hr0; have HC0 := mA hc0; clear hr0 hc0; have HB := mA (Below.refl w.heap.size w); have H : ((slices_ContainsFunc_int64_int64_impl_areWithin_1.f k l0 a1 a2).bind fun t255 => (some (!t255))) = some r := h; clear h; obtain ⟨t255, A4, H⟩ := sqB H; obtain rfl := Option.some.inj H; go_enter Try.func57, Try.ntmps57
 go_wp2_with (first | (refine sqX 4 #[.int .i64 a1] 2 ?_; intro gb253 hg w5 hbox hb; have BK253 := mA (hbox); have GW253 := mA ((zq9 : w.heap.size ≤ gb253)); have GE253 := mA ((zq9 : w.heap.size ≤ gb253)); replace HB := mA (below_step zq3 hb); clear hb hbox hg) | (refine sqX 5 #[.int .i64 a2] 2 ?_; intro gb254 hg w6 hbox hb; have BK254 := mA (hbox); have GW254 := mA ((zq8 : w.heap.size ≤ gb254)); have GE254 := mA ((zq8 : w.heap.size ≤ gb254)); replace HB := mA (below_step zq1 hb); have NB253_254 := mA ((by rw [hg]; exact Nat.ne_of_lt (blk_lt (g := gb253) (o := .cells #[.int .i64 a1] 2 (0, 0)) (zq0 BK253)) : gb253 ≠ gb254)); have NB254_253 := mA ((by rw [hg]; exact Nat.ne_of_gt (blk_lt (g := gb253) (o := .cells #[.int .i64 a1] 2 (0, 0)) (zq0 BK253)) : gb254 ≠ gb253)); replace BK253 := mA (blkb hb BK253.out); clear hb hbox hg) | (refine sqG 65 (some 9) Try.func65 #[.slice A0 l0.length c0, .func (.func 66) #[] #[.pointer (some ⟨gb253, 0, none⟩), .pointer (some ⟨gb254, 0, none⟩)]] (h := ?_); (with_reducible refine (slices_ContainsFunc_int64_int64_impl_areWithin_1.calls k _ _ l0 gb253 gb254 a1 a2 t255 _ ?s1 ?s2 ?s3 ?s4 A4.out).mono ?_); (case s1 => exact zq7 HR0); (case s2 => exact HC0.out); (case s3 => exact zq17 BK253); (case s4 => exact zq17 BK254); rintro e w7 ⟨rfl, hb⟩; refine ⟨_, rfl, ?_⟩; replace BK253 := mA (blkb hb BK253.out); replace BK254 := mA (blkb hb BK254.out); replace HB := mA (below_step zq1 hb); (try clear hb)))
 go_ret; exact ⟨zq6, zq1⟩

-- told with its function values: function 56 (impl_ValidTable_1)

/-! ### impl_ValidTable_1: function 56 -/
def impl_ValidTable_1.f (k : Nat) (l0 : List Int) (a1_0 : Int) (l1_1 : List (List Int)) : Option (Bool) := if 0 < (l1_1.length : Int) then (if (l0.length : Int) = ((rd_L1 l1_1 0).length : Int) then ((impl_areWithin.f k l0 0 100000).bind fun t257 => (some (!t257))) else (some true)) else (none)
theorem impl_ValidTable_1.mono : ∀ a0 a1 a2 k, LeO (impl_ValidTable_1.f k a0 a1 a2) (impl_ValidTable_1.f (k + 1) a0 a1 a2) := by
  intro a0 a1 a2 k
  unfold impl_ValidTable_1.f
  repeat' first | (with_reducible first | apply impl_areWithin.mono | exact LeO.refl _ | exact LeO.none _ | refine LeO.ite ?_ ?_ | refine LeO.bind ?_ (fun _ => ?_)) | apply impl_areWithin.mono | exact LeO.none _ | refine LeO.ite ?_ ?_ | refine LeO.bind ?_ (fun _ => ?_)
set_option maxHeartbeats 8000000 in
set_option maxRecDepth 100000 in
theorem impl_ValidTable_1.calls (k : Nat) (A0 : Option Addr) (c0 : Nat) (l0 : List Int) (gv1_0_ : Nat) (a1_0 : Int) (A1_1 : Option Addr) (c1_1 : Nat) (l1_1 : List (List Int)) (r : Bool) (w : World) (hr0 : Kd.C (Kd.int .i64) w A0 l0.length l0) (hc0 : l0.length ≤ c0) (hbx1_0_ : w.heap[gv1_0_]? = some (.cells #[.int .i64 a1_0, .slice A1_1 l1_1.length c1_1] 28 (0, 0))) (hr1_1 : Kd.C (Kd.slice 2 (Kd.int .i64)) w A1_1 l1_1.length l1_1) (hc1_1 : l1_1.length ≤ c1_1) (h : impl_ValidTable_1.f k l0 a1_0 l1_1 = some r) :
    Calls Try.prog 56 #[.slice A0 l0.length c0, .pointer (some ⟨gv1_0_, 0, none⟩)] w fun e w' => e = .returned (.bool r) ∧ Below w.heap.size w w' := by
 have HR0 := mA hr0; have HC0 := mA hc0; clear hr0 hc0; have HR1_1 := mA hr1_1; have HC1_1 := mA hc1_1; clear hr1_1 hc1_1; have BK46 := mA hbx1_0_; clear hbx1_0_; have HB := mA (Below.refl w.heap.size w); have H : (if 0 < (l1_1.length : Int) then (if (l0.length : Int) = ((rd_L1 l1_1 0).length : Int) then ((impl_areWithin.f k l0 0 100000).bind fun t257 => (some (!t257))) else (some true)) else (none)) = some r := h; clear h; obtain ⟨c3, H⟩ := sqI H; have c3b0 : decide (0 < (l1_1.length : Int)) = true := decide_eq_true c3; have c3b1 : decide (0 < l1_1.length) = true := decide_eq_true (by omega); clear c3; refine sqC ((l0.length : Int) = ((rd_L1 l1_1 0).length : Int)) (fun c4 => ?_) (fun c4 => ?_)
 ·rw [if_neg c4] at H; have c4b0 : ((l0.length : Int) == ((rd_L1 l1_1 0).length : Int)) = false := beq_eq_false_iff_ne.mpr c4; have c4b1 : ((l0.length : Int) != ((rd_L1 l1_1 0).length : Int)) = true := bne_iff_ne.mpr c4
  have c4b2 : (l0.length == (rd_L1 l1_1 0).length) = false := by first | simpa using c4 | (simp at c4 ⊢; omega)
  obtain rfl := Option.some.inj H; obtain ⟨hcz8_0, hfz8_0⟩ := sqW0 BK46; obtain ⟨hcz8_1, hfz8_1⟩ := sqW1 BK46; have p256 : 0 ≤ (0 : Int) := (by omega); have q256 : 0 < (l1_1.length : Int) := sqd; obtain ⟨ad256, A256_0, c256_0, e256, hx256_0, hl256_0, hi256_0⟩ := at_L1 HR1_1.out 0 p256 q256
  cases e256
  have qi256 : (0 < l1_1.length) = True := eq_true (by omega); (try rw [show ((0 : Int)).toNat = 0 from rfl] at hx256_0); (try rw [Addr.add_zero'] at hx256_0); have HR256_0 := mA hi256_0; have HC256_0 := mA hl256_0; clear hi256_0 hl256_0; replace p256 := eq_true p256; replace q256 := eq_true q256; go_enter Try.func56, Try.ntmps56; go_wp2; go_ret; exact ⟨zq6, zq1⟩
 rw [if_pos c4] at H; have c4b0 : ((l0.length : Int) == ((rd_L1 l1_1 0).length : Int)) = true := beq_iff_eq.mpr c4; have c4b1 : ((l0.length : Int) != ((rd_L1 l1_1 0).length : Int)) = false := bne_eq_false_iff_eq.mpr c4
 have c4b2 : (l0.length == (rd_L1 l1_1 0).length) = true := by first | simpa using c4 | (simp at c4 ⊢; omega)
 clear c4; obtain ⟨t257, A5, H⟩ := sqB H; obtain rfl := Option.some.inj H; obtain ⟨hcz6_0, hfz6_0⟩ := sqW0 BK46; obtain ⟨hcz6_1, hfz6_1⟩ := sqW1 BK46; have p256 : 0 ≤ (0 : Int) := (by omega); have q256 : 0 < (l1_1.length : Int) := sqd; obtain ⟨ad256, A256_0, c256_0, e256, hx256_0, hl256_0, hi256_0⟩ := at_L1 HR1_1.out 0 p256 q256
 cases e256
 have qi256 : (0 < l1_1.length) = True := eq_true (by omega); (try rw [show ((0 : Int)).toNat = 0 from rfl] at hx256_0); (try rw [Addr.add_zero'] at hx256_0); have HR256_0 := mA hi256_0; have HC256_0 := mA hl256_0; clear hi256_0 hl256_0; replace p256 := eq_true p256; replace q256 := eq_true q256; go_enter Try.func56, Try.ntmps56; go_wp2_with (first | (go_at_call 57; (with_reducible refine (impl_areWithin.calls k _ _ l0 0 100000 t257 _ ?s1 ?s2 A5.out).mono ?_); (case s1 => exact zq22 HR0); (case s2 => exact HC0.out); rintro e w7 ⟨rfl, hb⟩; replace BK46 := mA (blkb hb BK46.out); replace HB := mA (below_step zq1 hb); (try clear hb))); go_ret; exact ⟨zq6, zq1⟩

/-! ### slices_IndexFunc_int64_int64_impl_ValidTable_1: function 64 -/
def slices_IndexFunc_int64_int64_impl_ValidTable_1.l0 : Nat → List (List Int) → Int → Int → Int → List (List Int) → Option (Int)
  | 0, _, _, _, _, _ => none
  | k + 1, x0, x7, x8, x47000, x47001 => if x8 < x7 then (if 0 ≤ x8 then (if x8 < (x0.length : Int) then ((impl_ValidTable_1.f k (rd_L1 x0 x8) x47000 x47001).bind fun t259 => (if t259 = true then (some x8) else (slices_IndexFunc_int64_int64_impl_ValidTable_1.l0 k x0 x7 (wrap64 (x8 + 1)) x47000 x47001))) else (none)) else (none)) else (some (-1))
def slices_IndexFunc_int64_int64_impl_ValidTable_1.f (k : Nat) (l0 : List (List Int)) (a1_0 : Int) (l1_1 : List (List Int)) : Option (Int) := slices_IndexFunc_int64_int64_impl_ValidTable_1.l0 k l0 (l0.length : Int) 0 a1_0 l1_1
theorem slices_IndexFunc_int64_int64_impl_ValidTable_1.mono_l : ∀ k, (∀ y0 y1 y2 y3 y4, LeO (slices_IndexFunc_int64_int64_impl_ValidTable_1.l0 k y0 y1 y2 y3 y4) (slices_IndexFunc_int64_int64_impl_ValidTable_1.l0 (k + 1) y0 y1 y2 y3 y4))
  | 0 => fun _ _ _ _ _ r h => by simp [slices_IndexFunc_int64_int64_impl_ValidTable_1.l0] at h
  | k + 1 => by
   have ih0 := slices_IndexFunc_int64_int64_impl_ValidTable_1.mono_l k
   intros
   unfold slices_IndexFunc_int64_int64_impl_ValidTable_1.l0
   all_goals repeat' first | (with_reducible first | apply ih0 | apply impl_ValidTable_1.mono | exact LeO.refl _ | exact LeO.none _ | refine LeO.ite ?_ ?_ | refine LeO.bind ?_ (fun _ => ?_)) | apply ih0 | apply impl_ValidTable_1.mono | exact LeO.none _ | refine LeO.ite ?_ ?_ | refine LeO.bind ?_ (fun _ => ?_)
theorem slices_IndexFunc_int64_int64_impl_ValidTable_1.mono : ∀ a0 a1 a2 k, LeO (slices_IndexFunc_int64_int64_impl_ValidTable_1.f k a0 a1 a2) (slices_IndexFunc_int64_int64_impl_ValidTable_1.f (k + 1) a0 a1 a2) := by
  intro a0 a1 a2 k
  have ih0 := slices_IndexFunc_int64_int64_impl_ValidTable_1.mono_l k
  unfold slices_IndexFunc_int64_int64_impl_ValidTable_1.f
  repeat' first | (with_reducible first | apply ih0 | apply impl_ValidTable_1.mono | exact LeO.refl _ | exact LeO.none _ | refine LeO.ite ?_ ?_ | refine LeO.bind ?_ (fun _ => ?_)) | apply ih0 | apply impl_ValidTable_1.mono | exact LeO.none _ | refine LeO.ite ?_ ?_ | refine LeO.bind ?_ (fun _ => ?_)
set_option maxHeartbeats 8000000 in
set_option maxRecDepth 100000 in
theorem slices_IndexFunc_int64_int64_impl_ValidTable_1.calls (k : Nat) (A0 : Option Addr) (c0 : Nat) (l0 : List (List Int)) (gv1_0_ : Nat) (a1_0 : Int) (A1_1 : Option Addr) (c1_1 : Nat) (l1_1 : List (List Int)) (r : Int) (w : World) (hr0 : Kd.C (Kd.slice 2 (Kd.int .i64)) w A0 l0.length l0) (hc0 : l0.length ≤ c0) (hbx1_0_ : w.heap[gv1_0_]? = some (.cells #[.int .i64 a1_0, .slice A1_1 l1_1.length c1_1] 28 (0, 0))) (hr1_1 : Kd.C (Kd.slice 2 (Kd.int .i64)) w A1_1 l1_1.length l1_1) (hc1_1 : l1_1.length ≤ c1_1) (h : slices_IndexFunc_int64_int64_impl_ValidTable_1.f k l0 a1_0 l1_1 = some r) :
    Calls Try.prog 64 #[.slice A0 l0.length c0, .func (.func 56) #[] #[.pointer (some ⟨gv1_0_, 0, none⟩)]] w fun e w' => e = .returned (.int .i64 r) ∧ Below w.heap.size w w' := by
 have HR0 := mA hr0; have HC0 := mA hc0; clear hr0 hc0; have HR1_1 := mA hr1_1; have HC1_1 := mA hc1_1; clear hr1_1 hc1_1; have BK46 := mA hbx1_0_; clear hbx1_0_; have HB := mA (Below.refl w.heap.size w); have H : (slices_IndexFunc_int64_int64_impl_ValidTable_1.l0 k l0 (l0.length : Int) 0 a1_0 l1_1) = some r := h; clear h; have H' := mA H; clear H; go_enter Try.func64, Try.ntmps64; go_wp2; go_loopg [8] k (fun kq v8 w' => ∃ (x8_1 : Int), v8 = .int .i64 x8_1 ∧ Aside0 (slices_IndexFunc_int64_int64_impl_ValidTable_1.l0 kq l0 (l0.length : Int) x8_1 a1_0 l1_1 = some r) ∧ Aside0 (kq ≤ k) ∧ Aside0 (w'.heap[gv1_0_]? = some (.cells #[.int .i64 a1_0, (.slice A1_1 l1_1.length c1_1)] 28 (0, 0))) ∧ Aside0 (Below w.heap.size w w'))
 case atStart => exact ⟨(0), zq4, H', ⟨Nat.le_refl _⟩, ⟨zq0 BK46⟩, ⟨zq1⟩⟩
 case round =>
  clear H'; obtain ⟨x8_1, rfl, HA, HK1, BK46, HB⟩ := hrel
  cases gk with
  | zero => exact absurd HA.out (by simp [slices_IndexFunc_int64_int64_impl_ValidTable_1.l0])
  | succ k1 =>
   have H := HA.out; clear HA; simp only [slices_IndexFunc_int64_int64_impl_ValidTable_1.l0] at H; refine sqC (x8_1 < (l0.length : Int)) (fun c3 => ?_) (fun c3 => ?_)
   ·rw [if_neg c3] at H; have c3b0 : decide (x8_1 < (l0.length : Int)) = false := decide_eq_false c3; clear c3; obtain rfl := Option.some.inj H; go_wp2; go_ret; exact ⟨zq6, zq1⟩
   rw [if_pos c3] at H; have c3b0 : decide (x8_1 < (l0.length : Int)) = true := decide_eq_true c3; clear c3; obtain ⟨c4, H⟩ := sqI H; have c4b0 : decide (0 ≤ x8_1) = true := decide_eq_true c4; clear c4; obtain ⟨c5, H⟩ := sqI H; replace c5 := decide_eq_true c5; obtain ⟨t259, A6, H⟩ := sqB H; by_cases c7 : t259 = true
   ·subst c7; rw [if_pos rfl] at H; obtain rfl := Option.some.inj H; have p258 : 0 ≤ (x8_1 : Int) := sqd; have q258 : x8_1 < (l0.length : Int) := sqd; obtain ⟨ad258, A258_0, c258_0, e258, hx258_0, hl258_0, hi258_0⟩ := at_L1 HR0.out x8_1 p258 q258
    cases e258
    replace hx258_0 := sqh HB hx258_0; have HR258_0 := mA hi258_0; have HC258_0 := mA hl258_0; clear hi258_0 hl258_0; replace p258 := eq_true p258; replace q258 := eq_true q258; go_wp2_with (first | (go_at_call 56; (with_reducible refine (impl_ValidTable_1.calls k1 _ _ (rd_L1 l0 x8_1) gv1_0_ a1_0 A1_1 c1_1 l1_1 true _ ?s1 ?s2 ?s3 ?s4 ?s5 A6.out).mono ?_); (case s1 => exact zq7 HR258_0); (case s2 => exact HC258_0.out); (case s3 => exact zq17 BK46); (case s4 => exact zq7 HR1_1); (case s5 => exact HC1_1.out); rintro e w8 ⟨rfl, hb⟩; replace BK46 := mA (blkb hb BK46.out); replace HB := mA (below_step zq1 hb); (try clear hb))); go_ret; exact ⟨zq6, zq1⟩
   replace c7 := Bool.eq_false_iff.mpr c7; subst c7; rw [if_neg (show ¬ (false = true) by decide)] at H; have H' := mA H; clear H; have p258 : 0 ≤ (x8_1 : Int) := sqd; have q258 : x8_1 < (l0.length : Int) := sqd; obtain ⟨ad258, A258_0, c258_0, e258, hx258_0, hl258_0, hi258_0⟩ := at_L1 HR0.out x8_1 p258 q258
   cases e258
   replace hx258_0 := sqh HB hx258_0; have HR258_0 := mA hi258_0; have HC258_0 := mA hl258_0; clear hi258_0 hl258_0; replace p258 := eq_true p258; replace q258 := eq_true q258; go_wp2_with (first | (go_at_call 56; (with_reducible refine (impl_ValidTable_1.calls k1 _ _ (rd_L1 l0 x8_1) gv1_0_ a1_0 A1_1 c1_1 l1_1 false _ ?s1 ?s2 ?s3 ?s4 ?s5 A6.out).mono ?_); (case s1 => exact zq7 HR258_0); (case s2 => exact HC258_0.out); (case s3 => exact zq17 BK46); (case s4 => exact zq7 HR1_1); (case s5 => exact HC1_1.out); rintro e w9 ⟨rfl, hb⟩; replace BK46 := mA (blkb hb BK46.out); replace HB := mA (below_step zq1 hb); (try clear hb))); go_roundg k1
   case measure => have := HK1.out; omega
   case rel => exact ⟨(wrap64 (x8_1 + 1)), zq4, H', ⟨zq25 HK1⟩, ⟨zq0 BK46⟩, ⟨zq1⟩⟩

/-! ### slices_ContainsFunc_int64_int64_impl_ValidTable_1: function 55 -/
def slices_ContainsFunc_int64_int64_impl_ValidTable_1.f (k : Nat) (l0 : List (List Int)) (a1_0 : Int) (l1_1 : List (List Int)) : Option (Bool) := (slices_IndexFunc_int64_int64_impl_ValidTable_1.f k l0 a1_0 l1_1).bind fun t260 => (some (decide (t260 ≥ 0)))
theorem slices_ContainsFunc_int64_int64_impl_ValidTable_1.mono : ∀ a0 a1 a2 k, LeO (slices_ContainsFunc_int64_int64_impl_ValidTable_1.f k a0 a1 a2) (slices_ContainsFunc_int64_int64_impl_ValidTable_1.f (k + 1) a0 a1 a2) := by
  intro a0 a1 a2 k
  unfold slices_ContainsFunc_int64_int64_impl_ValidTable_1.f
  repeat' first | (with_reducible first | apply slices_IndexFunc_int64_int64_impl_ValidTable_1.mono | exact LeO.refl _ | exact LeO.none _ | refine LeO.ite ?_ ?_ | refine LeO.bind ?_ (fun _ => ?_)) | apply slices_IndexFunc_int64_int64_impl_ValidTable_1.mono | exact LeO.none _ | refine LeO.ite ?_ ?_ | refine LeO.bind ?_ (fun _ => ?_)
set_option maxHeartbeats 8000000 in
set_option maxRecDepth 100000 in
theorem slices_ContainsFunc_int64_int64_impl_ValidTable_1.calls (k : Nat) (A0 : Option Addr) (c0 : Nat) (l0 : List (List Int)) (gv1_0_ : Nat) (a1_0 : Int) (A1_1 : Option Addr) (c1_1 : Nat) (l1_1 : List (List Int)) (r : Bool) (w : World) (hr0 : Kd.C (Kd.slice 2 (Kd.int .i64)) w A0 l0.length l0) (hc0 : l0.length ≤ c0) (hbx1_0_ : w.heap[gv1_0_]? = some (.cells #[.int .i64 a1_0, .slice A1_1 l1_1.length c1_1] 28 (0, 0))) (hr1_1 : Kd.C (Kd.slice 2 (Kd.int .i64)) w A1_1 l1_1.length l1_1) (hc1_1 : l1_1.length ≤ c1_1) (h : slices_ContainsFunc_int64_int64_impl_ValidTable_1.f k l0 a1_0 l1_1 = some r) :
    Calls Try.prog 55 #[.slice A0 l0.length c0, .func (.func 56) #[] #[.pointer (some ⟨gv1_0_, 0, none⟩)]] w fun e w' => e = .returned (.bool r) ∧ Below w.heap.size w w' := by
 have HR0 := mA hr0; have HC0 := mA hc0; clear hr0 hc0; have HR1_1 := mA hr1_1; have HC1_1 := mA hc1_1; clear hr1_1 hc1_1; have BK46 := mA hbx1_0_; clear hbx1_0_; have HB := mA (Below.refl w.heap.size w); have H : ((slices_IndexFunc_int64_int64_impl_ValidTable_1.f k l0 a1_0 l1_1).bind fun t260 => (some (decide (t260 ≥ 0)))) = some r := h; clear h; obtain ⟨t260, A3, H⟩ := sqB H; obtain rfl := Option.some.inj H; go_enter Try.func55, Try.ntmps55; go_wp2_with (first | (refine sqG 64 (some 7) Try.func64 #[.slice A0 l0.length c0, .func (.func 56) #[] #[.pointer (some ⟨gv1_0_, 0, none⟩)]] (h := ?_); (with_reducible refine (slices_IndexFunc_int64_int64_impl_ValidTable_1.calls k _ _ l0 gv1_0_ a1_0 A1_1 c1_1 l1_1 t260 _ ?s1 ?s2 ?s3 ?s4 ?s5 A3.out).mono ?_); (case s1 => exact zq22 HR0); (case s2 => exact HC0.out); (case s3 => exact zq17 BK46); (case s4 => exact zq22 HR1_1); (case s5 => exact HC1_1.out); rintro e w4 ⟨rfl, hb⟩; refine ⟨_, rfl, ?_⟩; replace BK46 := mA (blkb hb BK46.out); replace HB := mA (below_step zq1 hb); (try clear hb))); go_ret; exact ⟨zq6, zq1⟩

/-! ### impl_ValidTable: function 45 -/
def impl_ValidTable.f (k : Nat) (a0_0 : Int) (l0_1 : List (List Int)) : Option (Bool) := (impl_within.f a0_0 1 1000).bind fun t262 => (if t262 = true then ((impl_size_int64_53.f l0_1).bind fun t263 => ((impl_within.f t263 1 5).bind fun t264 => (if t264 = true then (if 0 < (l0_1.length : Int) then ((impl_size_int64_54.f (rd_L1 l0_1 0)).bind fun t266 => ((impl_within.f t266 1 5).bind fun t267 => (if t267 = true then ((slices_ContainsFunc_int64_int64_impl_ValidTable_1.f k l0_1 a0_0 l0_1).bind fun t268 => (some (!t268))) else (some false)))) else (none)) else (some false)))) else (some false))
theorem impl_ValidTable.mono : ∀ a0 a1 k, LeO (impl_ValidTable.f k a0 a1) (impl_ValidTable.f (k + 1) a0 a1) := by
  intro a0 a1 k
  unfold impl_ValidTable.f
  repeat' first | (with_reducible first | apply slices_ContainsFunc_int64_int64_impl_ValidTable_1.mono | exact LeO.refl _ | exact LeO.none _ | refine LeO.ite ?_ ?_ | refine LeO.bind ?_ (fun _ => ?_)) | apply slices_ContainsFunc_int64_int64_impl_ValidTable_1.mono | exact LeO.none _ | refine LeO.ite ?_ ?_ | refine LeO.bind ?_ (fun _ => ?_)
set_option maxHeartbeats 8000000 in
set_option maxRecDepth 100000 in
theorem impl_ValidTable.calls (k : Nat) (a0_0 : Int) (A0_1 : Option Addr) (c0_1 : Nat) (l0_1 : List (List Int)) (r : Bool) (w : World) (hr0_1 : Kd.C (Kd.slice 2 (Kd.int .i64)) w A0_1 l0_1.length l0_1) (hc0_1 : l0_1.length ≤ c0_1) (h : impl_ValidTable.f k a0_0 l0_1 = some r) :
    Calls Try.prog 45 #[.agg #[.int .i64 a0_0, .slice A0_1 l0_1.length c0_1]] w fun e w' => e = .returned (.bool r) ∧ Below w.heap.size w w' := by
 have hu28 := Try.underlying28; have HR0_1 := mA hr0_1; have HC0_1 := mA hc0_1; clear hr0_1 hc0_1; have HB := mA (Below.refl w.heap.size w); have H : ((impl_within.f a0_0 1 1000).bind fun t262 => (if t262 = true then ((impl_size_int64_53.f l0_1).bind fun t263 => ((impl_within.f t263 1 5).bind fun t264 => (if t264 = true then (if 0 < (l0_1.length : Int) then ((impl_size_int64_54.f (rd_L1 l0_1 0)).bind fun t266 => ((impl_within.f t266 1 5).bind fun t267 => (if t267 = true then ((slices_ContainsFunc_int64_int64_impl_ValidTable_1.f k l0_1 a0_0 l0_1).bind fun t268 => (some (!t268))) else (some false)))) else (none)) else (some false)))) else (some false))) = some r := h; clear h; obtain ⟨t262, A2, H⟩ := sqB H; refine sqC (t262 = true) (fun c3 => ?_) (fun c3 => ?_)
 ·replace c3 := Bool.eq_false_iff.mpr c3; subst c3; rw [if_neg (show ¬ (false = true) by decide)] at H; obtain rfl := Option.some.inj H; go_enter Try.func45, Try.ntmps45; go_wp2_with (first | (refine sqX 1 #[.int .i64 a0_0, .slice A0_1 l0_1.length c0_1] 28 ?_; intro gb261 hg w19 hbox hb; have BK261 := mA (hbox); have GW261 := mA ((zq9 : w.heap.size ≤ gb261)); have GE261 := mA ((zq9 : w.heap.size ≤ gb261)); replace HB := mA (below_step zq3 hb); clear hb hbox hg; obtain ⟨hcz20_0, hfz20_0⟩ := sqW0 BK261; obtain ⟨hcz20_1, hfz20_1⟩ := sqW1 BK261) | (refine sqG 52 (some 5) Try.func52 #[.int .i64 a0_0, .int .i64 1, .int .i64 1000] (h := ?_); (with_reducible refine (impl_within.calls a0_0 1 1000 false _ A2.out).mono ?_); rintro e w' ⟨rfl, ⟨nd, rfl⟩⟩; refine ⟨_, rfl, ?_⟩)); go_ret; exact ⟨zq6, zq1⟩
 subst c3; rw [if_pos rfl] at H; obtain ⟨t263, A4, H⟩ := sqB H; obtain ⟨t264, A5, H⟩ := sqB H; refine sqC (t264 = true) (fun c6 => ?_) (fun c6 => ?_)
 ·replace c6 := Bool.eq_false_iff.mpr c6; subst c6; rw [if_neg (show ¬ (false = true) by decide)] at H; obtain rfl := Option.some.inj H; go_enter Try.func45, Try.ntmps45; go_wp2_with (first | (refine sqX 1 #[.int .i64 a0_0, .slice A0_1 l0_1.length c0_1] 28 ?_; intro gb261 hg w17 hbox hb; have BK261 := mA (hbox); have GW261 := mA ((zq9 : w.heap.size ≤ gb261)); have GE261 := mA ((zq9 : w.heap.size ≤ gb261)); replace HB := mA (below_step zq3 hb); clear hb hbox hg; obtain ⟨hcz18_0, hfz18_0⟩ := sqW0 BK261; obtain ⟨hcz18_1, hfz18_1⟩ := sqW1 BK261) | (refine sqG 52 (some 5) Try.func52 #[.int .i64 a0_0, .int .i64 1, .int .i64 1000] (h := ?_); (with_reducible refine (impl_within.calls a0_0 1 1000 true _ A2.out).mono ?_); rintro e w' ⟨rfl, ⟨nd, rfl⟩⟩; refine ⟨_, rfl, ?_⟩) | (go_at_call 53; (with_reducible refine (impl_size_int64_53.calls _ _ l0_1 t263 _ ?s1 ?s2 A4.out).mono ?_); (case s1 => exact zq36 HR0_1); (case s2 => exact HC0_1.out); rintro e w' ⟨rfl, ⟨nd, rfl⟩⟩) | (go_at_call 52; (with_reducible refine (impl_within.calls t263 1 5 false _ A5.out).mono ?_); rintro e w' ⟨rfl, ⟨nd, rfl⟩⟩)); go_ret; exact ⟨zq6, zq1⟩
 subst c6; rw [if_pos rfl] at H; obtain ⟨c7, H⟩ := sqI H; have c7b0 := decide_eq_true c7; have c7b1 : decide (0 < l0_1.length) = true := decide_eq_true (by omega); clear c7; obtain ⟨t266, A8, H⟩ := sqB H; obtain ⟨t267, A9, H⟩ := sqB H; refine sqC (t267 = true) (fun c10 => ?_) (fun c10 => ?_)
 ·replace c10 := Bool.eq_false_iff.mpr c10; subst c10; rw [if_neg (show ¬ (false = true) by decide)] at H; obtain rfl := Option.some.inj H; go_enter Try.func45, Try.ntmps45; go_wp2_with (first | (refine sqX 1 #[.int .i64 a0_0, .slice A0_1 l0_1.length c0_1] 28 ?_; intro gb261 hg w15 hbox hb; have BK261 := mA (hbox); have GW261 := mA ((zq9 : w.heap.size ≤ gb261)); have GE261 := mA ((zq9 : w.heap.size ≤ gb261)); replace HB := mA (below_step zq3 hb); clear hb hbox hg; obtain ⟨hcz16_0, hfz16_0⟩ := sqW0 BK261; obtain ⟨hcz16_1, hfz16_1⟩ := sqW1 BK261) | (refine sqG 52 (some 5) Try.func52 #[.int .i64 a0_0, .int .i64 1, .int .i64 1000] (h := ?_); (with_reducible refine (impl_within.calls a0_0 1 1000 true _ A2.out).mono ?_); rintro e w' ⟨rfl, ⟨nd, rfl⟩⟩; refine ⟨_, rfl, ?_⟩) | (go_at_call 53; (with_reducible refine (impl_size_int64_53.calls _ _ l0_1 t263 _ ?s1 ?s2 A4.out).mono ?_); (case s1 => exact zq36 HR0_1); (case s2 => exact HC0_1.out); rintro e w' ⟨rfl, ⟨nd, rfl⟩⟩) | (go_at_call 52; (with_reducible refine (impl_within.calls t263 1 5 true _ A5.out).mono ?_); rintro e w' ⟨rfl, ⟨nd, rfl⟩⟩; have p265 : 0 ≤ (0 : Int) := (by omega); have q265 : 0 < (l0_1.length : Int) := sqd; obtain ⟨ad265, A265_0, c265_0, e265, hx265_0, hl265_0, hi265_0⟩ := at_L1 HR0_1.out 0 p265 q265; cases e265; have qi265 : (0 < l0_1.length) = True := eq_true (by omega); (try rw [show ((0 : Int)).toNat = 0 from rfl] at hx265_0); (try rw [Addr.add_zero'] at hx265_0); replace hx265_0 := sqh HB hx265_0; have HR265_0 := mA hi265_0; have HC265_0 := mA hl265_0; clear hi265_0 hl265_0; replace p265 := eq_true p265; replace q265 := eq_true q265) | (go_at_call 54; (with_reducible refine (impl_size_int64_54.calls _ _ (rd_L1 l0_1 0) t266 _ ?s1 ?s2 A8.out).mono ?_); (case s1 => exact zq36 HR265_0); (case s2 => exact HC265_0.out); rintro e w' ⟨rfl, ⟨nd, rfl⟩⟩) | (go_at_call 52; (with_reducible refine (impl_within.calls t266 1 5 false _ A9.out).mono ?_); rintro e w' ⟨rfl, ⟨nd, rfl⟩⟩)); go_ret; exact ⟨zq6, zq1⟩
 subst c10; rw [if_pos rfl] at H; obtain ⟨t268, A11, H⟩ := sqB H; obtain rfl := Option.some.inj H; go_enter Try.func45, Try.ntmps45
 go_wp2_with (first | (refine sqX 1 #[.int .i64 a0_0, .slice A0_1 l0_1.length c0_1] 28 ?_; intro gb261 hg w12 hbox hb; have BK261 := mA (hbox); have GW261 := mA ((zq9 : w.heap.size ≤ gb261)); have GE261 := mA ((zq9 : w.heap.size ≤ gb261)); replace HB := mA (below_step zq3 hb); clear hb hbox hg; obtain ⟨hcz13_0, hfz13_0⟩ := sqW0 BK261; obtain ⟨hcz13_1, hfz13_1⟩ := sqW1 BK261) | (refine sqG 52 (some 5) Try.func52 #[.int .i64 a0_0, .int .i64 1, .int .i64 1000] (h := ?_); (with_reducible refine (impl_within.calls a0_0 1 1000 true _ A2.out).mono ?_); rintro e w' ⟨rfl, ⟨nd, rfl⟩⟩; refine ⟨_, rfl, ?_⟩) | (go_at_call 53; (with_reducible refine (impl_size_int64_53.calls _ _ l0_1 t263 _ ?s1 ?s2 A4.out).mono ?_); (case s1 => exact zq36 HR0_1); (case s2 => exact HC0_1.out); rintro e w' ⟨rfl, ⟨nd, rfl⟩⟩) | (go_at_call 52; (with_reducible refine (impl_within.calls t263 1 5 true _ A5.out).mono ?_); rintro e w' ⟨rfl, ⟨nd, rfl⟩⟩; have p265 : 0 ≤ (0 : Int) := (by omega); have q265 : 0 < (l0_1.length : Int) := sqd; obtain ⟨ad265, A265_0, c265_0, e265, hx265_0, hl265_0, hi265_0⟩ := at_L1 HR0_1.out 0 p265 q265; cases e265; have qi265 : (0 < l0_1.length) = True := eq_true (by omega); (try rw [show ((0 : Int)).toNat = 0 from rfl] at hx265_0); (try rw [Addr.add_zero'] at hx265_0); replace hx265_0 := sqh HB hx265_0; have HR265_0 := mA hi265_0; have HC265_0 := mA hl265_0; clear hi265_0 hl265_0; replace p265 := eq_true p265; replace q265 := eq_true q265) | (go_at_call 54; (with_reducible refine (impl_size_int64_54.calls _ _ (rd_L1 l0_1 0) t266 _ ?s1 ?s2 A8.out).mono ?_); (case s1 => exact zq36 HR265_0); (case s2 => exact HC265_0.out); rintro e w' ⟨rfl, ⟨nd, rfl⟩⟩) | (go_at_call 52; (with_reducible refine (impl_within.calls t266 1 5 true _ A9.out).mono ?_); rintro e w' ⟨rfl, ⟨nd, rfl⟩⟩) | (refine sqG 55 (some 26) Try.func55 #[.slice (some ad265) l0_1.length c0_1, .func (.func 56) #[] #[.pointer (some ⟨gb261, 0, none⟩)]] (h := ?_); (with_reducible refine (slices_ContainsFunc_int64_int64_impl_ValidTable_1.calls k _ _ l0_1 gb261 a0_0 (some ad265) c0_1 l0_1 t268 _ ?s1 ?s2 ?s3 ?s4 ?s5 A11.out).mono ?_); (case s1 => exact zq36 HR0_1); (case s2 => exact HC0_1.out); (case s3 => exact zq17 BK261); (case s4 => exact zq36 HR0_1); (case s5 => exact HC0_1.out); rintro e w14 ⟨rfl, hb⟩; refine ⟨_, rfl, ?_⟩; replace BK261 := mA (blkb hb BK261.out); replace HB := mA (below_step zq1 hb); (try clear hb)))
 go_ret; exact ⟨zq6, zq1⟩

/-! ### impl_sum: function 62 -/
def impl_sum.l0 : Nat → Int → List Int → Int → Int → Option (Int)
  | 0, _, _, _, _ => none
  | k + 1, x3, x6, x7, x8 => if x8 < x7 then (if 0 ≤ x8 then (if x8 < (x6.length : Int) then (impl_sum.l0 k (wrap64 (x3 + (rd x6 x8))) x6 x7 (wrap64 (x8 + 1))) else (none)) else (none)) else (some x3)
def impl_sum.f (k : Nat) (l0 : List Int) : Option (Int) := impl_sum.l0 k 0 l0 (l0.length : Int) 0
theorem impl_sum.mono_l : ∀ k, (∀ y0 y1 y2 y3, LeO (impl_sum.l0 k y0 y1 y2 y3) (impl_sum.l0 (k + 1) y0 y1 y2 y3))
  | 0 => fun _ _ _ _ r h => by simp [impl_sum.l0] at h
  | k + 1 => by
   have ih0 := impl_sum.mono_l k
   intros
   unfold impl_sum.l0
   all_goals repeat' first | (with_reducible first | apply ih0 | exact LeO.refl _ | exact LeO.none _ | refine LeO.ite ?_ ?_ | refine LeO.bind ?_ (fun _ => ?_)) | apply ih0 | exact LeO.none _ | refine LeO.ite ?_ ?_ | refine LeO.bind ?_ (fun _ => ?_)
theorem impl_sum.mono : ∀ a0 k, LeO (impl_sum.f k a0) (impl_sum.f (k + 1) a0) := by
  intro a0 k
  have ih0 := impl_sum.mono_l k
  unfold impl_sum.f
  repeat' first | (with_reducible first | apply ih0 | exact LeO.refl _ | exact LeO.none _ | refine LeO.ite ?_ ?_ | refine LeO.bind ?_ (fun _ => ?_)) | apply ih0 | exact LeO.none _ | refine LeO.ite ?_ ?_ | refine LeO.bind ?_ (fun _ => ?_)
set_option maxHeartbeats 8000000 in
set_option maxRecDepth 100000 in
theorem impl_sum.calls (k : Nat) (A0 : Option Addr) (c0 : Nat) (l0 : List Int) (r : Int) (w : World) (hr0 : Kd.C (Kd.int .i64) w A0 l0.length l0) (hc0 : l0.length ≤ c0) (h : impl_sum.f k l0 = some r) :
    Calls Try.prog 62 #[.slice A0 l0.length c0] w fun e w' => e = .returned (.int .i64 r) ∧ Drawn0 w w' := by
 have HR0 := mA hr0; have HC0 := mA hc0; clear hr0 hc0; have H : (impl_sum.l0 k 0 l0 (l0.length : Int) 0) = some r := h; clear h; have H' := mA H; clear H; go_enter Try.func62, Try.ntmps62; go_wp2; go_loopg [3, 8] k (fun kq v3 v8 w' => ∃ (x3_1 : Int) (x8_1 : Int), v3 = .int .i64 x3_1 ∧ v8 = .int .i64 x8_1 ∧ Aside0 (impl_sum.l0 kq x3_1 l0 (l0.length : Int) x8_1 = some r) ∧ Aside0 (kq ≤ k) ∧ Drawn0 w w')
 case atStart => exact ⟨(0), (0), zq4, zq4, H', ⟨Nat.le_refl _⟩, zq10⟩
 case round =>
  clear H'; obtain ⟨x3_1, x8_1, rfl, rfl, HA, HK1, ⟨m1, rfl⟩⟩ := hrel
  cases gk with
  | zero => exact absurd HA.out (by simp [impl_sum.l0])
  | succ k1 =>
   have H := HA.out; clear HA; simp only [impl_sum.l0] at H; refine sqC (x8_1 < (l0.length : Int)) (fun c2 => ?_) (fun c2 => ?_)
   ·rw [if_neg c2] at H; have c2b0 : decide (x8_1 < (l0.length : Int)) = false := decide_eq_false c2; clear c2; obtain rfl := Option.some.inj H; go_wp2; go_ret; exact ⟨zq4, zq10⟩
   rw [if_pos c2] at H; have c2b0 : decide (x8_1 < (l0.length : Int)) = true := decide_eq_true c2; clear c2; obtain ⟨c3, H⟩ := sqI H; have c3b0 : decide (0 ≤ x8_1) = true := decide_eq_true c3; clear c3; obtain ⟨c4, H⟩ := sqI H; have c4b0 : decide (x8_1 < (l0.length : Int)) = true := decide_eq_true c4; clear c4; have H' := mA H; clear H; have p269 : 0 ≤ (x8_1 : Int) := sqd; have q269 : x8_1 < (l0.length : Int) := sqd; obtain ⟨ad269, e269, hx269_0⟩ := Kd.at_int HR0.out x8_1 p269 q269
   cases e269
   replace p269 := eq_true p269; replace q269 := eq_true q269; go_wp2; go_roundg k1
   case measure => have := HK1.out; omega
   case rel => exact ⟨(wrap64 (x3_1 + (rd l0 x8_1))), (wrap64 (x8_1 + 1)), zq4, zq4, H', ⟨zq25 HK1⟩, zq10⟩

/-! ### impl_sums: function 58 -/
def impl_sums.l0 : Nat → List Int → List (List Int) → Int → Int → Option (List Int)
  | 0, _, _, _, _ => none
  | k + 1, x3, x7, x8, x9 => if x9 < x8 then (if 0 ≤ x9 then (if x9 < (x7.length : Int) then ((impl_sum.f k (rd_L1 x7 x9)).bind fun t274 => (if x3.length < 17592186044416 then (impl_sums.l0 k (x3 ++ [t274]) x7 x8 (wrap64 (x9 + 1))) else (none))) else (none)) else (none)) else (some x3)
def impl_sums.f (k : Nat) (l0 : List (List Int)) : Option (List Int) := impl_sums.l0 k (([] : List Int)) l0 (l0.length : Int) 0
theorem impl_sums.mono_l : ∀ k, (∀ y0 y1 y2 y3, LeO (impl_sums.l0 k y0 y1 y2 y3) (impl_sums.l0 (k + 1) y0 y1 y2 y3))
  | 0 => fun _ _ _ _ r h => by simp [impl_sums.l0] at h
  | k + 1 => by
   have ih0 := impl_sums.mono_l k
   intros
   unfold impl_sums.l0
   all_goals repeat' first | (with_reducible first | apply ih0 | apply impl_sum.mono | exact LeO.refl _ | exact LeO.none _ | refine LeO.ite ?_ ?_ | refine LeO.bind ?_ (fun _ => ?_)) | apply ih0 | apply impl_sum.mono | exact LeO.none _ | refine LeO.ite ?_ ?_ | refine LeO.bind ?_ (fun _ => ?_)
theorem impl_sums.mono : ∀ a0 k, LeO (impl_sums.f k a0) (impl_sums.f (k + 1) a0) := by
  intro a0 k
  have ih0 := impl_sums.mono_l k
  unfold impl_sums.f
  repeat' first | (with_reducible first | apply ih0 | apply impl_sum.mono | exact LeO.refl _ | exact LeO.none _ | refine LeO.ite ?_ ?_ | refine LeO.bind ?_ (fun _ => ?_)) | apply ih0 | apply impl_sum.mono | exact LeO.none _ | refine LeO.ite ?_ ?_ | refine LeO.bind ?_ (fun _ => ?_)
set_option maxHeartbeats 8000000 in
set_option maxRecDepth 100000 in
theorem impl_sums.calls (k : Nat) (A0 : Option Addr) (c0 : Nat) (l0 : List (List Int)) (r : List Int) (w : World) (hr0 : Kd.C (Kd.slice 2 (Kd.int .i64)) w A0 l0.length l0) (hc0 : l0.length ≤ c0) (h : impl_sums.f k l0 = some r) :
    Calls Try.prog 58 #[.slice A0 l0.length c0] w fun e w' => ∃ v0_ : Value, e = .returned (v0_) ∧ Kd.R (Kd.int .i64) 2 w' w.heap.size (fun _ => True) v0_ r ∧ Below w.heap.size w w' := by
 have HR0 := mA hr0; have HC0 := mA hc0; clear hr0 hc0; have HB := mA (Below.refl w.heap.size w); have H : (impl_sums.l0 k (([] : List Int)) l0 (l0.length : Int) 0) = some r := h; clear h; obtain ⟨y270, hy270⟩ : ∃ y_ : List Int, y_ = (([] : List Int)) := ⟨_, rfl⟩
 replace H : (impl_sums.l0 k y270 l0 (l0.length : Int) 0) = some r := sqHY hy270 H
 have Ny270 := mA hy270; clear hy270; have H' := mA H; clear H; go_enter Try.func58, Try.ntmps58; go_wp2_with (first | ((with_reducible refine gate_dst (N := 6) rfl ?_); refine Kd.R_lit (Kd.int .i64) _ 2 ?hg (N := 6) ?hd (xs := ([] : List Int)) (inner := []) (ok := fun _ => True) (okp := fun _ => True) ?hr ?hp (fun _ hk => hk) trivial (Below.refl _ _) (Nat.le_refl _) (by simp) ?_; (case hd => rfl); (case hg => rfl); (case hr => exact zq12); (case hp => exact (Reps.none _ _)); intro v271 w2 ho3 hb hg_ hnew_; clear hg_ hnew_; (first | rw [← Ny270.out] at ho3 | (simp only [Int.reduceToNat] at ho3; rw [← Ny270.out] at ho3)); have HO272 := mA (Kd.R_lower ho3 (below_size zq3)); replace HB := mA (below_step zq3 hb); clear hb ho3)); go_loopg [3, 9] k (fun kq v3 v9 w' => ∃ (x3_1 : List Int) (x9_1 : Int), v9 = .int .i64 x9_1 ∧ Aside0 (impl_sums.l0 kq x3_1 l0 (l0.length : Int) x9_1 = some r) ∧ Aside0 (kq ≤ k) ∧ Aside0 (Kd.R (Kd.int .i64) 2 w' w.heap.size (fun _ => True) v3 x3_1) ∧ Aside0 (Below w.heap.size w w'))
 case atStart => exact ⟨(y270), (0), zq4, H', ⟨Nat.le_refl _⟩, ⟨zq2 HO272⟩, ⟨zq3⟩⟩
 case round =>
  clear H'; obtain ⟨x3_1, x9_1, rfl, HA, HK1, HO_3, HB⟩ := hrel
  cases gk with
  | zero => exact absurd HA.out (by simp [impl_sums.l0])
  | succ k1 =>
   have H := HA.out; clear HA; simp only [impl_sums.l0] at H; refine sqC (x9_1 < (l0.length : Int)) (fun c4 => ?_) (fun c4 => ?_)
   ·rw [if_neg c4] at H; have c4b0 : decide (x9_1 < (l0.length : Int)) = false := decide_eq_false c4; clear c4; obtain rfl := Option.some.inj H; go_wp2; go_ret; exact ⟨_, zq6, zq2 HO_3, zq3⟩
   rw [if_pos c4] at H; have c4b0 : decide (x9_1 < (l0.length : Int)) = true := decide_eq_true c4; clear c4; obtain ⟨c5, H⟩ := sqI H; replace c5 := decide_eq_true c5; obtain ⟨c6, H⟩ := sqI H; have c6b0 : decide (x9_1 < (l0.length : Int)) = true := decide_eq_true c6; clear c6; obtain ⟨t274, A7, H⟩ := sqB H; obtain ⟨c8, H⟩ := sqI H; have LMc8 := mA c8; clear c8; obtain ⟨y275, hy275⟩ : ∃ y_ : List Int, y_ = (x3_1 ++ [t274]) := ⟨_, rfl⟩
   replace H : (impl_sums.l0 k1 y275 l0 (l0.length : Int) (wrap64 (x9_1 + 1))) = some r := sqHY hy275 H
   have Ny275 := mA hy275; clear hy275; have H' := mA H; clear H; have p273 : 0 ≤ (x9_1 : Int) := sqd; have q273 : x9_1 < (l0.length : Int) := sqd; obtain ⟨ad273, A273_0, c273_0, e273, hx273_0, hl273_0, hi273_0⟩ := at_L1 HR0.out x9_1 p273 q273
   cases e273
   replace hx273_0 := sqh HB hx273_0; have HR273_0 := mA hi273_0; have HC273_0 := mA hl273_0; clear hi273_0 hl273_0; replace p273 := eq_true p273; replace q273 := eq_true q273; go_wp2_with (first | (refine sqG 62 (some 15) Try.func62 #[.slice A273_0 (rd_L1 l0 x9_1).length c273_0] (h := ?_); (with_reducible refine (impl_sum.calls k1 _ _ (rd_L1 l0 x9_1) t274 _ ?s1 ?s2 A7.out).mono ?_); (case s1 => exact zq7 HR273_0); (case s2 => exact HC273_0.out); rintro e w' ⟨rfl, ⟨nd, rfl⟩⟩; refine ⟨_, rfl, ?_⟩) | ((with_reducible refine gate_builtin (b := .append) (xs := #[.tmp 13, .tmp 16]) rfl ?_); at_builtin; refine Kd.R_append (Kd.int .i64) (w0 := w) w.heap.size rfl (.tmp 13) (.tmp 16) 46 2 (.int .i64 0) 8 rfl Try.underlying46 info2 rfl (by decide) (by omega) u3 x3_1 t274 [.int .i64 t274] (fun _ => True) (fun _ => False) rfl rfl ?aP (fun _ hk => hk.elim) ?aF ?aO ?aB ?aS ?aL ?_; (case aP => exact rfl); (case aB => exact zq23); (case aF => exact zq31); (case aO => exact zq35 HO_3); (case aS => exact zq27); (case aL => exact zq25 LMc8); intro v276 w9 ho hb hg hat; rw [← Ny275.out] at ho; replace HB := mA (hb); have HO277 := mA (ho); clear HO_3 ho hb hg hat)); go_roundg k1
   case measure => have := HK1.out; omega
   case rel => exact ⟨(y275), (wrap64 (x9_1 + 1)), zq4, H', ⟨zq25 HK1⟩, ⟨zq2 HO277⟩, ⟨zq3⟩⟩

/-! ### impl_floor: function 67 -/
def impl_floor.f (a0 : Int) (a1 : Int) : Option (Int) := if a1 = 0 then (none) else (if (Int.tmod a0 a1) < 0 then (some (wrap64 ((wrap64 (Int.tdiv a0 a1)) - 1))) else (some (wrap64 (Int.tdiv a0 a1))))
set_option maxHeartbeats 8000000 in
set_option maxRecDepth 100000 in
theorem impl_floor.calls (a0 : Int) (a1 : Int) (r : Int) (w : World) (h : impl_floor.f a0 a1 = some r) :
    Calls Try.prog 67 #[.int .i64 a0, .int .i64 a1] w fun e w' => e = .returned (.int .i64 r) ∧ Drawn0 w w' := by
 have H : (if a1 = 0 then (none) else (if (Int.tmod a0 a1) < 0 then (some (wrap64 ((wrap64 (Int.tdiv a0 a1)) - 1))) else (some (wrap64 (Int.tdiv a0 a1))))) = some r := h; clear h; obtain ⟨c3, H⟩ := sqJ H; have c3b0 : (a1 == 0) = false := beq_eq_false_iff_ne.mpr c3; have c3b1 : (a1 != 0) = true := bne_iff_ne.mpr c3; by_cases c4 : (Int.tmod a0 a1) < 0
 ·rw [if_pos c4] at H; have c4b0 : decide ((Int.tmod a0 a1) < 0) = true := decide_eq_true c4; clear c4; obtain rfl := Option.some.inj H; go_enter Try.func67, Try.ntmps67; go_wp2; go_ret; exact ⟨zq4, zq10⟩
 rw [if_neg c4] at H; have c4b0 : decide ((Int.tmod a0 a1) < 0) = false := decide_eq_false c4; clear c4; obtain rfl := Option.some.inj H; go_enter Try.func67, Try.ntmps67; go_wp2; go_ret; exact ⟨zq4, zq10⟩

/-! ### impl_ceiling: function 68 -/
def impl_ceiling.f (a0 : Int) (a1 : Int) : Option (Int) := (impl_floor.f (wrap64 (-a0)) a1).bind fun t278 => (some (wrap64 (-t278)))
set_option maxHeartbeats 8000000 in
set_option maxRecDepth 100000 in
theorem impl_ceiling.calls (a0 : Int) (a1 : Int) (r : Int) (w : World) (h : impl_ceiling.f a0 a1 = some r) :
    Calls Try.prog 68 #[.int .i64 a0, .int .i64 a1] w fun e w' => e = .returned (.int .i64 r) ∧ Drawn0 w w' := by
 have H : ((impl_floor.f (wrap64 (-a0)) a1).bind fun t278 => (some (wrap64 (-t278)))) = some r := h; clear h; obtain ⟨t278, A3, H⟩ := sqB H; obtain rfl := Option.some.inj H; go_enter Try.func68, Try.ntmps68; go_wp2_with (first | (refine sqG 67 (some 8) Try.func67 #[.int .i64 (wrap64 (-a0)), .int .i64 a1] (h := ?_); (with_reducible refine (impl_floor.calls (wrap64 (-a0)) a1 t278 _ A3.out).mono ?_); rintro e w' ⟨rfl, ⟨nd, rfl⟩⟩; refine ⟨_, rfl, ?_⟩)); go_ret; exact ⟨zq4, zq10⟩

end Go.Proofs.Ytdcglkdgepdnpaa.PFnExactNearestTable
