/- Written by this session's program (wip/tool/xprint.py) over the kit's printer. -/
import Derived.Test.YtlhpejabdmejbaaPFnExactSumWeightsx0
import Derived.Test.YtlhpejabdmejbaaPFnExactSumWeightsx7
namespace Go.Proofs.Ytlhpejabdmejbaa.PFnExactSumWeights
open Go.RowKit Go.Proofs.YtlhpejabdmejbaaW.PrintWords Go.Proofs.YtlhpejabdmejbaaW.PrintLast Go.Proofs.YtlhpejabdmejbaaW.PrintMore
attribute [local go_sem] max2_int min2_int max_two min_two max_three min_three max_four min_four   -- for this text's walks alone
set_option linter.unusedVariables false
set_option linter.unusedSimpArgs false

/-! ### impl_sums: function 97 -/
def impl_sums.l0 : Nat → List Int → List (List Int) → Int → Int → Option (List Int)
  | 0, _, _, _, _ => none
  | k + 1, x3, x7, x8, x9 => if x9 < x8 then (if 0 ≤ x9 then (if x9 < (x7.length : Int) then ((impl_sum.f k (rd_L1 x7 x9)).bind fun t230 => (if x3.length < 17592186044416 then (impl_sums.l0 k (x3 ++ [t230]) x7 x8 (wrap64 (x9 + 1))) else (none))) else (none)) else (none)) else (some x3)
def impl_sums.f (k : Nat) (l0 : List (List Int)) : Option (List Int) := impl_sums.l0 k (([] : List Int)) l0 (l0.length : Int) 0
theorem impl_sums.mono_l : ∀ k, (∀ y0 y1 y2 y3, LeO (impl_sums.l0 k y0 y1 y2 y3) (impl_sums.l0 (k + 1) y0 y1 y2 y3))
  | 0 => fun _ _ _ _ r h => by simp [impl_sums.l0] at h
  | k + 1 => by
   have ih0 := impl_sums.mono_l k
   intros
   unfold impl_sums.l0
   all_goals repeat' first | (with_reducible first | apply ih0 | apply impl_sum.mono | exact LeO.refl _ | exact LeO.none _ | refine LeO.ite ?_ ?_ | refine LeO.bind ?_ (fun _ => ?_)) | apply ih0 | apply impl_sum.mono | exact LeO.none _ | refine LeO.ite ?_ ?_ | refine LeO.bind ?_ (fun _ => ?_)
theorem impl_sums.mono : ∀ a0 k, LeO (impl_sums.f k a0) (impl_sums.f (k + 1) a0) := by
  intro a0 k
  have ih0 := impl_sums.mono_l k
  unfold impl_sums.f
  repeat' first | (with_reducible first | apply ih0 | apply impl_sum.mono | exact LeO.refl _ | exact LeO.none _ | refine LeO.ite ?_ ?_ | refine LeO.bind ?_ (fun _ => ?_)) | apply ih0 | apply impl_sum.mono | exact LeO.none _ | refine LeO.ite ?_ ?_ | refine LeO.bind ?_ (fun _ => ?_)
set_option maxHeartbeats 8000000 in
set_option maxRecDepth 100000 in
theorem impl_sums.calls (k : Nat) (A0 : Option Addr) (c0 : Nat) (l0 : List (List Int)) (r : List Int) (w : World) (hr0 : Kd.C (Kd.slice 2 (Kd.int .i64)) w A0 l0.length l0) (hc0 : l0.length ≤ c0) (h : impl_sums.f k l0 = some r) :
    Calls Try.prog 97 #[.slice A0 l0.length c0] w fun e w' => ∃ v0_ : Value, e = .returned (v0_) ∧ Kd.R (Kd.int .i64) 2 w' w.heap.size (fun _ => True) v0_ r ∧ Below w.heap.size w w' := by
 have HR0 := mA hr0; have HC0 := mA hc0; clear hr0 hc0; have HB := mA (Below.refl w.heap.size w); have H : (impl_sums.l0 k (([] : List Int)) l0 (l0.length : Int) 0) = some r := h; clear h; obtain ⟨y226, hy226⟩ : ∃ y_ : List Int, y_ = (([] : List Int)) := ⟨_, rfl⟩
 replace H : (impl_sums.l0 k y226 l0 (l0.length : Int) 0) = some r := by first | (rw [hy226]; with_reducible exact H) | (have H2_ := (Option.bind_some _ _).symm.trans H; rw [hy226]; with_reducible exact H2_) | (have H2_ := (Option.bind_some _ _).symm.trans H; with_reducible exact H2_) | with_reducible exact H | (rw [hy226]; exact H) | exact H
 have Ny226 := mA hy226; clear hy226; have H' := mA H; clear H; go_enter Try.func97, Try.ntmps97; go_wp2_with (first | ((with_reducible refine gate_dst (N := 6) rfl ?_); refine Kd.R_lit (Kd.int .i64) _ 2 ?hg (N := 6) ?hd (xs := ([] : List Int)) (inner := []) (ok := fun _ => True) (okp := fun _ => True) ?hr ?hp (fun _ hk => hk) trivial (Below.refl _ _) (Nat.le_refl _) (by simp) ?_; (case hd => rfl); (case hg => rfl); (case hr => exact zq14); (case hp => exact (Reps.none _ _)); intro v227 w2 ho3 hb hg_ hnew_; clear hg_ hnew_; (first | rw [← Ny226.out] at ho3 | (simp only [Int.reduceToNat] at ho3; rw [← Ny226.out] at ho3)); have HO228 := mA (Kd.R_lower ho3 (below_size zq4)); replace HB := mA (below_step zq4 hb); clear hb ho3)); go_loopg [3, 9] k (fun kq v3 v9 w' => ∃ (x3_1 : List Int) (x9_1 : Int), v9 = .int .i64 x9_1 ∧ Aside0 (impl_sums.l0 kq x3_1 l0 (l0.length : Int) x9_1 = some r) ∧ Aside0 (kq ≤ k) ∧ Aside0 (Kd.R (Kd.int .i64) 2 w' w.heap.size (fun _ => True) v3 x3_1) ∧ Aside0 (Below w.heap.size w w'))
 case atStart => exact ⟨(y226), (0), zq3, H', ⟨Nat.le_refl _⟩, ⟨zq2 HO228⟩, ⟨zq4⟩⟩
 case round =>
  clear H'; (try clear p2); obtain ⟨x3_1, x9_1, rfl, HA, HK1, HO_3, HB⟩ := hrel
  cases gk with
  | zero => exact absurd HA.out (by simp [impl_sums.l0])
  | succ k1 =>
   have H := HA.out; clear HA; simp only [impl_sums.l0] at H; refine sqC (x9_1 < (l0.length : Int)) (fun c4 => ?_) (fun c4 => ?_)
   ·rw [if_neg c4] at H; replace c4 := decide_eq_false c4; obtain rfl := Option.some.inj H; go_wp2; go_ret; exact ⟨_, zq5, zq2 HO_3, zq4⟩
   rw [if_pos c4] at H; replace c4 := decide_eq_true c4; obtain ⟨c5, H⟩ := sqI H; replace c5 := decide_eq_true c5; obtain ⟨c6, H⟩ := sqI H; replace c6 := decide_eq_true c6; obtain ⟨t230, A7, H⟩ := sqB H; obtain ⟨c8, H⟩ := sqI H; have LMc8 := mA c8; clear c8; obtain ⟨y231, hy231⟩ : ∃ y_ : List Int, y_ = (x3_1 ++ [t230]) := ⟨_, rfl⟩
   replace H : (impl_sums.l0 k1 y231 l0 (l0.length : Int) (wrap64 (x9_1 + 1))) = some r := by first | (rw [hy231]; with_reducible exact H) | (have H2_ := (Option.bind_some _ _).symm.trans H; rw [hy231]; with_reducible exact H2_) | (have H2_ := (Option.bind_some _ _).symm.trans H; with_reducible exact H2_) | with_reducible exact H | (rw [hy231]; exact H) | exact H
   have Ny231 := mA hy231; clear hy231; have H' := mA H; clear H; have p229 : 0 ≤ (x9_1 : Int) := sqd; have q229 : x9_1 < (l0.length : Int) := sqd; obtain ⟨ad229, A229_0, c229_0, e229, hx229_0, hl229_0, hi229_0⟩ := at_L1 HR0.out x9_1 p229 q229
   cases e229
   replace hx229_0 := sqh HB hx229_0; have HR229_0 := mA hi229_0; have HC229_0 := mA hl229_0; clear hi229_0 hl229_0; replace p229 := eq_true p229; replace q229 := eq_true q229; go_wp2_with (first | (refine sqG 69 (some 15) Try.func69 #[.slice A229_0 (rd_L1 l0 x9_1).length c229_0] (h := ?_); (with_reducible refine (impl_sum.calls k1 _ _ (rd_L1 l0 x9_1) t230 _ ?s1 ?s2 A7.out).mono ?_); (case s1 => repeat (first | exact (Kd.C_below HR229_0.out HB.out) | (with_reducible refine Kd.C_alloc ?_ _) | (with_reducible refine Kd.C_drewN ?_ _) | (with_reducible refine Kd.C_drew ?_))); (case s2 => exact HC229_0.out); rintro e w' ⟨rfl, ⟨nd, rfl⟩⟩; refine ⟨_, rfl, ?_⟩) | ((with_reducible refine gate_builtin (b := .append) (xs := #[.tmp 13, .tmp 16]) rfl ?_); at_builtin; refine Kd.R_append (Kd.int .i64) (w0 := w) w.heap.size rfl (.tmp 13) (.tmp 16) 22 2 (.int .i64 0) 8 rfl Try.underlying22 info2 rfl (by decide) (by omega) u3 x3_1 t230 [.int .i64 t230] (fun _ => True) (fun _ => False) rfl rfl ?aP (fun _ hk => hk.elim) ?aF ?aO ?aB ?aS ?aL ?_; (case aP => exact rfl); (case aB => exact zq4); (case aF => exact (fun _ _ => trivial)); (case aO => exact (zq2 HO_3)); (case aS => exact (below_size zq4)); (case aL => have := LMc8.out; omega); intro v232 w9 ho hb hg hat; rw [← Ny231.out] at ho; replace HB := mA (hb); have HO233 := mA (ho); clear HO_3 ho hb hg hat)); go_roundg k1
   case measure => have := HK1.out; omega
   case rel => exact ⟨(y231), (wrap64 (x9_1 + 1)), zq3, H', ⟨by have := HK1.out; omega⟩, ⟨zq2 HO233⟩, ⟨zq4⟩⟩

/-! ### cmp_isNaN_int64: function 156 -/
def cmp_isNaN_int64.f (a0 : Int) : Option (Bool) := some (a0 != a0)
set_option maxHeartbeats 8000000 in
set_option maxRecDepth 100000 in
theorem cmp_isNaN_int64.calls (a0 : Int) (r : Bool) (w : World) (h : cmp_isNaN_int64.f a0 = some r) :
    Calls Try.prog 156 #[.int .i64 a0] w fun e w' => e = .returned (.bool r) ∧ Drawn0 w w' := by
 have H : (some (a0 != a0)) = some r := h; clear h; obtain rfl := Option.some.inj H; go_enter Try.func156, Try.ntmps156; go_wp2; go_ret; exact ⟨zq3, zq6⟩

/-! ### cmp_Less_int64: function 146 -/
def cmp_Less_int64.f (a0 : Int) (a1 : Int) : Option (Bool) := (cmp_isNaN_int64.f a0).bind fun t234 => (if t234 = true then ((cmp_isNaN_int64.f a1).bind fun t235 => (if t235 = true then (some (decide (a0 < a1))) else (some true))) else (some (decide (a0 < a1))))
set_option maxHeartbeats 8000000 in
set_option maxRecDepth 100000 in
theorem cmp_Less_int64.calls (a0 : Int) (a1 : Int) (r : Bool) (w : World) (h : cmp_Less_int64.f a0 a1 = some r) :
    Calls Try.prog 146 #[.int .i64 a0, .int .i64 a1] w fun e w' => e = .returned (.bool r) ∧ Drawn0 w w' := by
 have H : ((cmp_isNaN_int64.f a0).bind fun t234 => (if t234 = true then ((cmp_isNaN_int64.f a1).bind fun t235 => (if t235 = true then (some (decide (a0 < a1))) else (some true))) else (some (decide (a0 < a1))))) = some r := h; clear h; obtain ⟨t234, A3, H⟩ := sqB H; refine sqC (t234 = true) (fun c4 => ?_) (fun c4 => ?_)
 ·replace c4 := Bool.eq_false_iff.mpr c4; subst c4; rw [if_neg (show ¬ (false = true) by decide)] at H; obtain rfl := Option.some.inj H; go_enter Try.func146, Try.ntmps146; go_wp2_with (first | (refine sqG 156 (some 6) Try.func156 #[.int .i64 a0] (h := ?_); (with_reducible refine (cmp_isNaN_int64.calls a0 false _ A3.out).mono ?_); rintro e w' ⟨rfl, ⟨nd, rfl⟩⟩; refine ⟨_, rfl, ?_⟩)); go_ret; exact ⟨zq3, zq6⟩
 subst c4; rw [if_pos rfl] at H; obtain ⟨t235, A5, H⟩ := sqB H; by_cases c6 : t235 = true
 ·subst c6; rw [if_pos rfl] at H; obtain rfl := Option.some.inj H; go_enter Try.func146, Try.ntmps146; go_wp2_with (first | (refine sqG 156 (some 6) Try.func156 #[.int .i64 a0] (h := ?_); (with_reducible refine (cmp_isNaN_int64.calls a0 true _ A3.out).mono ?_); rintro e w' ⟨rfl, ⟨nd, rfl⟩⟩; refine ⟨_, rfl, ?_⟩) | (go_at_call 156; (with_reducible refine (cmp_isNaN_int64.calls a1 true _ A5.out).mono ?_); rintro e w' ⟨rfl, ⟨nd, rfl⟩⟩)); go_ret; exact ⟨zq3, zq6⟩
 replace c6 := Bool.eq_false_iff.mpr c6; subst c6; rw [if_neg (show ¬ (false = true) by decide)] at H; obtain rfl := Option.some.inj H; go_enter Try.func146, Try.ntmps146; go_wp2_with (first | (refine sqG 156 (some 6) Try.func156 #[.int .i64 a0] (h := ?_); (with_reducible refine (cmp_isNaN_int64.calls a0 true _ A3.out).mono ?_); rintro e w' ⟨rfl, ⟨nd, rfl⟩⟩; refine ⟨_, rfl, ?_⟩) | (go_at_call 156; (with_reducible refine (cmp_isNaN_int64.calls a1 false _ A5.out).mono ?_); rintro e w' ⟨rfl, ⟨nd, rfl⟩⟩)); go_ret; exact ⟨zq3, zq6⟩

-- NOT PRINTED: function 140 (slices_insertionSortOrdered_int64)

-- NOT PRINTED: function 151 (slices_siftDownOrdered_int64)

-- NOT PRINTED: function 141 (slices_heapSortOrdered_int64)

-- NOT PRINTED: function 149 (bits_Len32)

-- NOT PRINTED: function 150 (bits_Len64)

-- NOT PRINTED: function 129 (bits_Len)

-- NOT PRINTED: function 152 (slices_nextPowerOfTwo)

-- NOT PRINTED: function 153 (slices_xorshift_Next)

-- NOT PRINTED: function 142 (slices_breakPatternsOrdered_int64)

-- NOT PRINTED: function 157 (slices_order2Ordered_int64)

-- NOT PRINTED: function 155 (slices_medianOrdered_int64)

-- NOT PRINTED: function 154 (slices_medianAdjacentOrdered_int64)

-- NOT PRINTED: function 143 (slices_choosePivotOrdered_int64)

-- NOT PRINTED: function 144 (slices_reverseRangeOrdered_int64)

-- NOT PRINTED: function 145 (slices_partialInsertionSortOrdered_int64)

-- NOT PRINTED: function 147 (slices_partitionEqualOrdered_int64)

-- NOT PRINTED: function 148 (slices_partitionOrdered_int64)

-- NOT PRINTED: function 128 (slices_pdqsortOrdered_int64)

/-! ### slices_Sort_int64_int64: function 98 -/
-- given by hand
def slices_Sort_int64_int64.ren : Go.Shelf.Ren := ⟨fun | 5 => 98 | 8 => 129 | 7 => 128 | 19 => 149 | 20 => 150 | 10 => 140 | 11 => 141 | 12 => 142 | 13 => 143 | 14 => 144 | 15 => 145 | 16 => 146 | 17 => 147 | 18 => 148 | 30 => 151 | 31 => 152 | 32 => 153 | 33 => 154 | 34 => 155 | 35 => 156 | 40 => 157 | n => n, fun | 23 => 22 | 25 => 2 | 3 => 3 | 32 => 117 | 22 => 22 | 0 => 0 | 44 => 136 | 46 => 118 | 4 => 4 | 36 => 128 | 35 => 127 | 41 => 133 | 5 => 5 | 9 => 9 | 53 => 138 | 57 => 142 | 63 => 144 | 64 => 145 | n => n, fun | n => n⟩
theorem slices_Sort_int64_int64.lay : Go.Proofs.SlLaysM.n5 Try.prog slices_Sort_int64_int64.ren := {
  mixed := by kernel_rfl,
  f5 := ⟨ "slices.Sort[[]int64,int64]", by decide, Try.func98.trans (congrArg some (by kernel_rfl))⟩,
  f7 := ⟨ "slices.pdqsortOrdered[int64]", by decide, Try.func128.trans (congrArg some (by kernel_rfl))⟩,
  f8 := Try.func129.trans (congrArg some (by kernel_rfl)),
  f10 := ⟨ "slices.insertionSortOrdered[int64]", by decide, Try.func140.trans (congrArg some (by kernel_rfl))⟩,
  f11 := ⟨ "slices.heapSortOrdered[int64]", by decide, Try.func141.trans (congrArg some (by kernel_rfl))⟩,
  f12 := ⟨ "slices.breakPatternsOrdered[int64]", by decide, Try.func142.trans (congrArg some (by kernel_rfl))⟩,
  f13 := ⟨ "slices.choosePivotOrdered[int64]", by decide, Try.func143.trans (congrArg some (by kernel_rfl))⟩,
  f14 := ⟨ "slices.reverseRangeOrdered[int64]", by decide, Try.func144.trans (congrArg some (by kernel_rfl))⟩,
  f15 := ⟨ "slices.partialInsertionSortOrdered[int64]", by decide, Try.func145.trans (congrArg some (by kernel_rfl))⟩,
  f16 := ⟨ "cmp.Less[int64]", by decide, Try.func146.trans (congrArg some (by kernel_rfl))⟩,
  f17 := ⟨ "slices.partitionEqualOrdered[int64]", by decide, Try.func147.trans (congrArg some (by kernel_rfl))⟩,
  f18 := ⟨ "slices.partitionOrdered[int64]", by decide, Try.func148.trans (congrArg some (by kernel_rfl))⟩,
  f19 := Try.func149.trans (congrArg some (by kernel_rfl)),
  f20 := Try.func150.trans (congrArg some (by kernel_rfl)),
  f30 := ⟨ "slices.siftDownOrdered[int64]", by decide, Try.func151.trans (congrArg some (by kernel_rfl))⟩,
  f31 := Try.func152.trans (congrArg some (by kernel_rfl)),
  f32 := Try.func153.trans (congrArg some (by kernel_rfl)),
  f33 := ⟨ "slices.medianAdjacentOrdered[int64]", by decide, Try.func154.trans (congrArg some (by kernel_rfl))⟩,
  f34 := ⟨ "slices.medianOrdered[int64]", by decide, Try.func155.trans (congrArg some (by kernel_rfl))⟩,
  f35 := ⟨ "cmp.isNaN[int64]", by decide, Try.func156.trans (congrArg some (by kernel_rfl))⟩,
  f40 := ⟨ "slices.order2Ordered[int64]", by decide, Try.func157.trans (congrArg some (by kernel_rfl))⟩,
  t0 := Try.underlying0,
  a0 := Try.isAgg0,
  z0 := Try.sizeOf0,
  v0 := Try.zeroValue0,
  t3 := Try.underlying3,
  a3 := Try.isAgg3,
  z3 := Try.sizeOf3,
  v3 := Try.zeroValue3,
  t4 := Try.underlying4,
  a4 := Try.isAgg4,
  z4 := Try.sizeOf4,
  v4 := Try.zeroValue4,
  t5 := Try.underlying5,
  a5 := Try.isAgg5,
  z5 := Try.sizeOf5,
  v5 := Try.zeroValue5,
  t9 := Try.underlying9,
  a9 := Try.isAgg9,
  z9 := Try.sizeOf9,
  v9 := Try.zeroValue9,
  t22 := Try.underlying22,
  a22 := Try.isAgg22,
  z22 := Try.sizeOf22,
  v22 := Try.zeroValue22,
  t23 := Try.underlying22,
  a23 := Try.isAgg22,
  z23 := Try.sizeOf22,
  v23 := Try.zeroValue22,
  t25 := Try.underlying2,
  a25 := Try.isAgg2,
  z25 := Try.sizeOf2,
  v25 := Try.zeroValue2,
  t32 := Try.underlying117,
  a32 := Try.isAgg117,
  z32 := Try.sizeOf117,
  v32 := Try.zeroValue117,
  t35 := Try.underlying127,
  a35 := Try.isAgg127,
  z35 := Try.sizeOf127,
  v35 := Try.zeroValue127,
  t36 := Try.underlying128,
  a36 := Try.isAgg128,
  z36 := Try.sizeOf128,
  v36 := Try.zeroValue128,
  t41 := Try.underlying133,
  a41 := Try.isAgg133,
  z41 := Try.sizeOf133,
  v41 := Try.zeroValue133,
  t44 := Try.underlying136,
  a44 := Try.isAgg136,
  z44 := Try.sizeOf136,
  v44 := Try.zeroValue136,
  t46 := Try.underlying118,
  a46 := Try.isAgg118,
  z46 := Try.sizeOf118,
  v46 := Try.zeroValue118,
  t53 := Try.underlying138,
  a53 := Try.isAgg138,
  z53 := Try.sizeOf138,
  v53 := Try.zeroValue138,
  t57 := Try.underlying142,
  a57 := Try.isAgg142,
  z57 := Try.sizeOf142,
  v57 := Try.zeroValue142,
  t63 := Try.underlying144,
  a63 := Try.isAgg144,
  z63 := Try.sizeOf144,
  v63 := Try.zeroValue144,
  t64 := Try.underlying145,
  a64 := Try.isAgg145,
  z64 := Try.sizeOf145,
  v64 := Try.zeroValue145 }
theorem slices_Sort_int64_int64.holds {w : World} {base e n cap g : Nat} {xs : List Int} (h : w.ownsRow base e 1 (.slice (some ⟨g, 0, none⟩) n cap) n (nums .i64 xs)) : ∃ cur, w.heap[g]? = some (.cells cur e (0, 0)) ∧ xs.length = n ∧ n ≤ cap ∧ cap ≤ maxLen ∧ base ≤ g ∧ cur.size = cap * 1 ∧ cur.toList.take xs.length = xs.map (Value.int .i64) := by
 have hl : xs.length = n := by have := h.1; simp [nums] at this; exact this
 rcases h.2 with ⟨h0, _⟩ | ⟨g', cap', cur, hv, hg, hb, h1, h2, h3, h4⟩
 ·cases h0
 injection hv with ha hn hc
 injection ha with ha
 injection ha with ha _ _
 subst ha hc; refine ⟨cur, hb, hl, h1, h2, hg, h3, ?_⟩; rw [hl]; rw [Nat.mul_one] at h4; exact h4
theorem slices_Sort_int64_int64.back {w : World} {base g cap n : Nat} {e : TypeId} {os : Array Obj} {cur : Array Value} {ss ts : List Int} {ok : Nat → Prop} (hl : ts.length = ss.length) (hbase : base ≤ g) (hb : w.heap[g]? = some (.cells cur e (0, 0)))
    (h1 : ss.length ≤ cap) (h2 : cap ≤ maxLen) (h3 : cur.size = cap * 1) (hok : ok g) : Kd.R (Kd.int .i64) e (Sort.grow (Sort.putRow (Value.int .i64) (Sort.ahead w n) g 0 ts.toArray) os) base ok (.slice (some ⟨g, 0, none⟩) ts.length cap) ts := by
 refine Kd.R_of_own (h1 := fun _ => rfl) ?_ (fun k hk => ?_)
 ·have := ownsRow_sortedI (n := n) (os := os) hl hbase hb h1 h2 h3; rw [← hl] at this; exact this
 ·simp [Value.ownBlock] at hk; rw [← hk]; exact hok
def slices_Sort_int64_int64.f (l0 : List Int) : Option (List Int) := if l0 = [] then none else if l0.length < 4611686018427387904 then some (l0.mergeSort fun x y => decide (x ≤ y)) else none
set_option maxHeartbeats 4000000 in
theorem slices_Sort_int64_int64.calls (P0_ : Nat → Prop) (u9000_ : Value) (l0 : List Int) (r : List Int) (w0 w : World) (hB : Below w0.heap.size w0 w) (ho0 : Kd.R (Kd.int .i64) 2 w w0.heap.size P0_ u9000_ l0) (h : slices_Sort_int64_int64.f l0 = some r) :
    Calls Try.prog 98 #[u9000_] w fun e w' => e = .returned (.tuple #[]) ∧ Kd.R (Kd.int .i64) 2 w' w0.heap.size (fun k_ => (P0_ k_ ∨ w.heap.size ≤ k_)) u9000_ r ∧ Below w0.heap.size w0 w' ∧ Kept w w' (fun k_ => P0_ k_) := by
 unfold slices_Sort_int64_int64.f at h; by_cases c : l0 = []
 ·rw [if_pos c] at h; cases h
 rw [if_neg c] at h; by_cases hsz : l0.length < 4611686018427387904
 case neg => rw [if_neg hsz] at h; cases h
 rw [if_pos hsz] at h; obtain rfl := Option.some.inj h
 have hp : 0 < l0.length := by cases l0 with | nil => exact absurd rfl c | cons _ _ => simp
 obtain ⟨g, cap, rfl, hgb, hgl, _⟩ := Kd.R_form ho0 hp; have hg : P0_ g := ho0.1 g (by simp [Value.ownBlock]); obtain ⟨cur, hb, hl, h1, h2, hbase, h3, h4⟩ := slices_Sort_int64_int64.holds (Kd.own_of_R ho0)
 have key : Calls Try.prog 98 #[.slice (some ⟨g, 0, none⟩) l0.length cap] w fun e w' => e = .returned (.tuple #[]) ∧ ∃ n os, w' = Sort.grow (Sort.putRow (Value.int .i64) (Sort.ahead w n) g 0 (l0.mergeSort fun x y => decide (x ≤ y)).toArray) os :=
  calls_of_every_depth fun D => AnySM.slices_Sort_int_in slices_Sort_int64_int64.lay D g 0 cap l0 w (holds_of_blockI hb h4) (Array.getElem?_eq_some_iff.1 hb).1 hsz
 refine key.mono ?_; rintro e w' ⟨rfl, n, os, rfl⟩; have hlen : (l0.mergeSort fun x y => decide (x ≤ y)).length = l0.length := List.length_mergeSort ..; have gr := grownBy_sortedI (w := w) (g := g) (n := n) (os := os) (l0.mergeSort fun x y => decide (x ≤ y)).toArray; have hr := slices_Sort_int64_int64.back (n := n) (os := os) (ok := fun k_ => (P0_ k_ ∨ w.heap.size ≤ k_)) hlen hbase hb h1 h2 h3 (.inl hg); rw [hlen] at hr; refine ⟨rfl, hr, pw_below_grown hB (some g) (Nat.le_trans hbase (Nat.le_of_lt (Array.getElem?_eq_some_iff.1 hb).1)) gr (fun k hk => by cases hk; exact hbase), Kept.of_grown gr (Kept.refl _ _) (fun k hk => by cases hk; exact .inl hg)⟩

/-! ### slices_Compact_int64_int64: function 99 -/
-- given by hand
def slices_Compact_int64_int64.ren : Go.Shelf.Ren := ⟨fun | 43 => 99 | n => n, fun | 22 => 22 | 23 => 2 | 3 => 3 | 4 => 4 | 0 => 0 | n => n, fun | n => n⟩
theorem slices_Compact_int64_int64.lay : Go.Proofs.SlLaysN.n43 Try.prog slices_Compact_int64_int64.ren := {
  mixed := by kernel_rfl,
  f43 := ⟨ "slices.Compact[[]int64,int64]", by decide, Try.func99.trans (congrArg some (by kernel_rfl))⟩,
  t0 := Try.underlying0,
  a0 := Try.isAgg0,
  z0 := Try.sizeOf0,
  v0 := Try.zeroValue0,
  t3 := Try.underlying3,
  a3 := Try.isAgg3,
  z3 := Try.sizeOf3,
  v3 := Try.zeroValue3,
  t4 := Try.underlying4,
  a4 := Try.isAgg4,
  z4 := Try.sizeOf4,
  v4 := Try.zeroValue4,
  t22 := Try.underlying22,
  a22 := Try.isAgg22,
  z22 := Try.sizeOf22,
  v22 := Try.zeroValue22,
  t23 := Try.underlying2,
  a23 := Try.isAgg2,
  z23 := Try.sizeOf2,
  v23 := Try.zeroValue2,
  i23 := by kernel_rfl }
theorem slices_Compact_int64_int64.holds {w : World} {base e n cap g : Nat} {xs : List Int} (h : w.ownsRow base e 1 (.slice (some ⟨g, 0, none⟩) n cap) n (nums .i64 xs)) : ∃ cur, w.heap[g]? = some (.cells cur e (0, 0)) ∧ xs.length = n ∧ n ≤ cap ∧ cap ≤ maxLen ∧ base ≤ g ∧ cur.size = cap * 1 ∧ cur.toList.take xs.length = xs.map (Value.int .i64) := by
 have hl : xs.length = n := by have := h.1; simp [nums] at this; exact this
 rcases h.2 with ⟨h0, _⟩ | ⟨g', cap', cur, hv, hg, hb, h1, h2, h3, h4⟩
 ·cases h0
 injection hv with ha hn hc
 injection ha with ha
 injection ha with ha _ _
 subst ha hc; refine ⟨cur, hb, hl, h1, h2, hg, h3, ?_⟩; rw [hl]; rw [Nat.mul_one] at h4; exact h4
theorem slices_Compact_int64_int64.back {w : World} {base g cap n : Nat} {e : TypeId} {os : Array Obj} {cur : Array Value} {ss ts : List Int} {ok : Nat → Prop} (hl : ts.length = ss.length) (hbase : base ≤ g) (hb : w.heap[g]? = some (.cells cur e (0, 0)))
    (h1 : ss.length ≤ cap) (h2 : cap ≤ maxLen) (h3 : cur.size = cap * 1) (hok : ok g) : Kd.R (Kd.int .i64) e (Sort.grow (Sort.putRow (Value.int .i64) (Sort.ahead w n) g 0 ts.toArray) os) base ok (.slice (some ⟨g, 0, none⟩) ts.length cap) ts := by
 refine Kd.R_of_own (h1 := fun _ => rfl) ?_ (fun k hk => ?_)
 ·have := ownsRow_sortedI (n := n) (os := os) hl hbase hb h1 h2 h3; rw [← hl] at this; exact this
 ·simp [Value.ownBlock] at hk; rw [← hk]; exact hok
def slices_Compact_int64_int64.f (l0 : List Int) : Option (List Int) := if l0 = [] then none else some (Go.Lib.compact l0)
set_option maxHeartbeats 4000000 in
theorem slices_Compact_int64_int64.calls (P0_ : Nat → Prop) (u9000_ : Value) (l0 : List Int) (r : List Int) (w0 w : World) (hB : Below w0.heap.size w0 w) (ho0 : Kd.R (Kd.int .i64) 2 w w0.heap.size P0_ u9000_ l0) (h : slices_Compact_int64_int64.f l0 = some r) :
    Calls Try.prog 99 #[u9000_] w fun e w' => ∃ v0_ : Value, e = .returned (v0_) ∧ Kd.R (Kd.int .i64) 2 w' w0.heap.size (fun k_ => (P0_ k_ ∨ w.heap.size ≤ k_)) v0_ r ∧ Below w0.heap.size w0 w' ∧ Kept w w' (fun k_ => P0_ k_) := by
 unfold slices_Compact_int64_int64.f at h; by_cases c : l0 = []
 ·rw [if_pos c] at h; cases h
 rw [if_neg c] at h; obtain rfl := Option.some.inj h
 have hp : 0 < l0.length := by cases l0 with | nil => exact absurd rfl c | cons _ _ => simp
 obtain ⟨g, cap, rfl, hgb, hgl, _⟩ := Kd.R_form ho0 hp; have hg : P0_ g := ho0.1 g (by simp [Value.ownBlock]); obtain ⟨cur, hb, hl, h1, h2, hbase, h3, h4⟩ := slices_Compact_int64_int64.holds (Kd.own_of_R ho0)
 have hsz : l0.length ≤ 9223372036854775807 := by unfold maxLen at h2; omega
 refine (AnyG.slices_Compact_int slices_Compact_int64_int64.lay g 0 cap l0 w (holds_of_blockI hb h4) hsz h1).mono ?_; rintro e w' ⟨rfl, q, rfl⟩
 have hle : (Go.Lib.compact l0).length ≤ l0.length := by unfold Go.Lib.compact Go.Lib.compactUpTo; rw [List.length_map]; exact Nat.le_trans (List.length_filter_le ..) (by simp)
 have hlen : (Go.Lib.compact l0 ++ List.replicate (l0.length - (Go.Lib.compact l0).length) 0).length = l0.length := by rw [List.length_append, List.length_replicate]; omega
 have gr := grownBy_sortedI (w := w) (g := g) (n := q) (os := #[]) (Go.Lib.compact l0 ++ List.replicate (l0.length - (Go.Lib.compact l0).length) 0).toArray; have hr := slices_Compact_int64_int64.back (n := q) (os := #[]) (ok := fun k_ => (P0_ k_ ∨ w.heap.size ≤ k_)) hlen hbase hb h1 h2 h3 (.inl hg); rw [Sort.grow_empty] at gr hr; have ht := Kd.R_take hr (m := (Go.Lib.compact l0).length) (by rw [hlen]; exact hle); rw [List.take_left'] at ht
 ·exact ⟨_, rfl, ht, pw_below_grown hB (some g) (Nat.le_trans hbase (Nat.le_of_lt (Array.getElem?_eq_some_iff.1 hb).1)) gr (fun k hk => by cases hk; exact hbase), Kept.of_grown gr (Kept.refl _ _) (fun k hk => by cases hk; exact .inl hg)⟩
 ·rfl

/-! ### slices_Index_int64_int64: function 100 -/
def slices_Index_int64_int64.l0 : Nat → List Int → Int → Int → Int → Option (Int)
  | 0, _, _, _, _ => none
  | k + 1, x0, x1, x7, x8 => if x8 < x7 then (if 0 ≤ x8 then (if x8 < (x0.length : Int) then (if x1 = (rd x0 x8) then (some x8) else (slices_Index_int64_int64.l0 k x0 x1 x7 (wrap64 (x8 + 1)))) else (none)) else (none)) else (some (-1))
def slices_Index_int64_int64.f (k : Nat) (l0 : List Int) (a1 : Int) : Option (Int) := slices_Index_int64_int64.l0 k l0 a1 (l0.length : Int) 0
theorem slices_Index_int64_int64.mono_l : ∀ k, (∀ y0 y1 y2 y3, LeO (slices_Index_int64_int64.l0 k y0 y1 y2 y3) (slices_Index_int64_int64.l0 (k + 1) y0 y1 y2 y3))
  | 0 => fun _ _ _ _ r h => by simp [slices_Index_int64_int64.l0] at h
  | k + 1 => by
   have ih0 := slices_Index_int64_int64.mono_l k
   intros
   unfold slices_Index_int64_int64.l0
   all_goals repeat' first | (with_reducible first | apply ih0 | exact LeO.refl _ | exact LeO.none _ | refine LeO.ite ?_ ?_ | refine LeO.bind ?_ (fun _ => ?_)) | apply ih0 | exact LeO.none _ | refine LeO.ite ?_ ?_ | refine LeO.bind ?_ (fun _ => ?_)
theorem slices_Index_int64_int64.mono : ∀ a0 a1 k, LeO (slices_Index_int64_int64.f k a0 a1) (slices_Index_int64_int64.f (k + 1) a0 a1) := by
  intro a0 a1 k
  have ih0 := slices_Index_int64_int64.mono_l k
  unfold slices_Index_int64_int64.f
  repeat' first | (with_reducible first | apply ih0 | exact LeO.refl _ | exact LeO.none _ | refine LeO.ite ?_ ?_ | refine LeO.bind ?_ (fun _ => ?_)) | apply ih0 | exact LeO.none _ | refine LeO.ite ?_ ?_ | refine LeO.bind ?_ (fun _ => ?_)
set_option maxHeartbeats 8000000 in
set_option maxRecDepth 100000 in
theorem slices_Index_int64_int64.calls (k : Nat) (A0 : Option Addr) (c0 : Nat) (l0 : List Int) (a1 : Int) (r : Int) (w : World) (hr0 : Kd.C (Kd.int .i64) w A0 l0.length l0) (hc0 : l0.length ≤ c0) (h : slices_Index_int64_int64.f k l0 a1 = some r) :
    Calls Try.prog 100 #[.slice A0 l0.length c0, .int .i64 a1] w fun e w' => e = .returned (.int .i64 r) ∧ Drawn0 w w' := by
 have HR0 := mA hr0; have HC0 := mA hc0; clear hr0 hc0; have H : (slices_Index_int64_int64.l0 k l0 a1 (l0.length : Int) 0) = some r := h; clear h; have H' := mA H; clear H; go_enter Try.func100, Try.ntmps100; go_wp2; go_loopg [8] k (fun kq v8 w' => ∃ (x8_1 : Int), v8 = .int .i64 x8_1 ∧ Aside0 (slices_Index_int64_int64.l0 kq l0 a1 (l0.length : Int) x8_1 = some r) ∧ Aside0 (kq ≤ k) ∧ Drawn0 w w')
 case atStart => exact ⟨(0), zq3, H', ⟨Nat.le_refl _⟩, zq6⟩
 case round =>
  clear H'; (try clear c1); (try clear p2); obtain ⟨x8_1, rfl, HA, HK1, ⟨m1, rfl⟩⟩ := hrel
  cases gk with
  | zero => exact absurd HA.out (by simp [slices_Index_int64_int64.l0])
  | succ k1 =>
   have H := HA.out; clear HA; simp only [slices_Index_int64_int64.l0] at H; refine sqC (x8_1 < (l0.length : Int)) (fun c3 => ?_) (fun c3 => ?_)
   ·rw [if_neg c3] at H; replace c3 := decide_eq_false c3; obtain rfl := Option.some.inj H; go_wp2; go_ret; exact ⟨zq3, zq6⟩
   rw [if_pos c3] at H; replace c3 := decide_eq_true c3; obtain ⟨c4, H⟩ := sqI H; replace c4 := decide_eq_true c4; obtain ⟨c5, H⟩ := sqI H; replace c5 := decide_eq_true c5; by_cases c6 : a1 = (rd l0 x8_1)
   ·rw [if_pos c6] at H; have c6b0 : (a1 == (rd l0 x8_1)) = true := beq_iff_eq.mpr c6; have c6b1 : (a1 != (rd l0 x8_1)) = false := bne_eq_false_iff_eq.mpr c6; clear c6; obtain rfl := Option.some.inj H; have p236 : 0 ≤ (x8_1 : Int) := sqd; have q236 : x8_1 < (l0.length : Int) := sqd; obtain ⟨ad236, e236, hx236_0⟩ := Kd.at_int HR0.out x8_1 p236 q236
    cases e236
    replace p236 := eq_true p236; replace q236 := eq_true q236; go_wp2; go_ret; exact ⟨zq3, zq6⟩
   rw [if_neg c6] at H; have c6b0 : (a1 == (rd l0 x8_1)) = false := beq_eq_false_iff_ne.mpr c6; have c6b1 : (a1 != (rd l0 x8_1)) = true := bne_iff_ne.mpr c6; have H' := mA H; clear H; have p236 : 0 ≤ (x8_1 : Int) := sqd; have q236 : x8_1 < (l0.length : Int) := sqd; obtain ⟨ad236, e236, hx236_0⟩ := Kd.at_int HR0.out x8_1 p236 q236
   cases e236
   replace p236 := eq_true p236; replace q236 := eq_true q236; go_wp2; go_roundg k1
   case measure => have := HK1.out; omega
   case rel => exact ⟨(wrap64 (x8_1 + 1)), zq3, H', ⟨by have := HK1.out; omega⟩, zq6⟩

end Go.Proofs.Ytlhpejabdmejbaa.PFnExactSumWeights
