/- Written by this session's program (wip/tool/xprint.py) over the kit's printer. -/
import Derived.Test.YtlhpejabdmejbaaPFnMeansx0
import Derived.Test.YtlhpejabdmejbaaPFnMeansx4
import Derived.Test.YtlhpejabdmejbaaPFnMeansx6
import Derived.Test.YtlhpejabdmejbaaPFnMeansx8
namespace Go.Proofs.Ytlhpejabdmejbaa.PFnMeans
open Go.RowKit Go.Proofs.YtlhpejabdmejbaaW.PrintWords Go.Proofs.YtlhpejabdmejbaaW.PrintLast Go.Proofs.YtlhpejabdmejbaaW.PrintMore
attribute [local go_sem] max2_int min2_int max_two min_two max_three min_three max_four min_four   -- for this text's walks alone
set_option linter.unusedVariables false
set_option linter.unusedSimpArgs false

/-! ### slices_Sort_int64_int64: function 98 -/
-- given by hand
def slices_Sort_int64_int64.ren : Go.Shelf.Ren := ⟨fun | 5 => 98 | 8 => 129 | 7 => 128 | 19 => 149 | 20 => 150 | 10 => 140 | 11 => 141 | 12 => 142 | 13 => 143 | 14 => 144 | 15 => 145 | 16 => 146 | 17 => 147 | 18 => 148 | 30 => 151 | 31 => 152 | 32 => 153 | 33 => 154 | 34 => 155 | 35 => 156 | 40 => 157 | n => n, fun | 23 => 22 | 25 => 2 | 3 => 3 | 32 => 117 | 22 => 22 | 0 => 0 | 44 => 136 | 46 => 118 | 4 => 4 | 36 => 128 | 35 => 127 | 41 => 133 | 5 => 5 | 9 => 9 | 53 => 138 | 57 => 142 | 63 => 144 | 64 => 145 | n => n, fun | n => n⟩
theorem slices_Sort_int64_int64.lay : Go.Proofs.SlLaysM.n5 Try.prog slices_Sort_int64_int64.ren := {
  mixed := by kernel_rfl,
  f5 := ⟨ "slices.Sort[[]int64,int64]", by decide, Try.func98.trans (congrArg some (by kernel_rfl))⟩,
  f7 := ⟨ "slices.pdqsortOrdered[int64]", by decide, Try.func128.trans (congrArg some (by kernel_rfl))⟩,
  f8 := Try.func129.trans (congrArg some (by kernel_rfl)),
  f10 := ⟨ "slices.insertionSortOrdered[int64]", by decide, Try.func140.trans (congrArg some (by kernel_rfl))⟩,
  f11 := ⟨ "slices.heapSortOrdered[int64]", by decide, Try.func141.trans (congrArg some (by kernel_rfl))⟩,
  f12 := ⟨ "slices.breakPatternsOrdered[int64]", by decide, Try.func142.trans (congrArg some (by kernel_rfl))⟩,
  f13 := ⟨ "slices.choosePivotOrdered[int64]", by decide, Try.func143.trans (congrArg some (by kernel_rfl))⟩,
  f14 := ⟨ "slices.reverseRangeOrdered[int64]", by decide, Try.func144.trans (congrArg some (by kernel_rfl))⟩,
  f15 := ⟨ "slices.partialInsertionSortOrdered[int64]", by decide, Try.func145.trans (congrArg some (by kernel_rfl))⟩,
  f16 := ⟨ "cmp.Less[int64]", by decide, Try.func146.trans (congrArg some (by kernel_rfl))⟩,
  f17 := ⟨ "slices.partitionEqualOrdered[int64]", by decide, Try.func147.trans (congrArg some (by kernel_rfl))⟩,
  f18 := ⟨ "slices.partitionOrdered[int64]", by decide, Try.func148.trans (congrArg some (by kernel_rfl))⟩,
  f19 := Try.func149.trans (congrArg some (by kernel_rfl)),
  f20 := Try.func150.trans (congrArg some (by kernel_rfl)),
  f30 := ⟨ "slices.siftDownOrdered[int64]", by decide, Try.func151.trans (congrArg some (by kernel_rfl))⟩,
  f31 := Try.func152.trans (congrArg some (by kernel_rfl)),
  f32 := Try.func153.trans (congrArg some (by kernel_rfl)),
  f33 := ⟨ "slices.medianAdjacentOrdered[int64]", by decide, Try.func154.trans (congrArg some (by kernel_rfl))⟩,
  f34 := ⟨ "slices.medianOrdered[int64]", by decide, Try.func155.trans (congrArg some (by kernel_rfl))⟩,
  f35 := ⟨ "cmp.isNaN[int64]", by decide, Try.func156.trans (congrArg some (by kernel_rfl))⟩,
  f40 := ⟨ "slices.order2Ordered[int64]", by decide, Try.func157.trans (congrArg some (by kernel_rfl))⟩,
  t0 := Try.underlying0,
  a0 := Try.isAgg0,
  z0 := Try.sizeOf0,
  v0 := Try.zeroValue0,
  t3 := Try.underlying3,
  a3 := Try.isAgg3,
  z3 := Try.sizeOf3,
  v3 := Try.zeroValue3,
  t4 := Try.underlying4,
  a4 := Try.isAgg4,
  z4 := Try.sizeOf4,
  v4 := Try.zeroValue4,
  t5 := Try.underlying5,
  a5 := Try.isAgg5,
  z5 := Try.sizeOf5,
  v5 := Try.zeroValue5,
  t9 := Try.underlying9,
  a9 := Try.isAgg9,
  z9 := Try.sizeOf9,
  v9 := Try.zeroValue9,
  t22 := Try.underlying22,
  a22 := Try.isAgg22,
  z22 := Try.sizeOf22,
  v22 := Try.zeroValue22,
  t23 := Try.underlying22,
  a23 := Try.isAgg22,
  z23 := Try.sizeOf22,
  v23 := Try.zeroValue22,
  t25 := Try.underlying2,
  a25 := Try.isAgg2,
  z25 := Try.sizeOf2,
  v25 := Try.zeroValue2,
  t32 := Try.underlying117,
  a32 := Try.isAgg117,
  z32 := Try.sizeOf117,
  v32 := Try.zeroValue117,
  t35 := Try.underlying127,
  a35 := Try.isAgg127,
  z35 := Try.sizeOf127,
  v35 := Try.zeroValue127,
  t36 := Try.underlying128,
  a36 := Try.isAgg128,
  z36 := Try.sizeOf128,
  v36 := Try.zeroValue128,
  t41 := Try.underlying133,
  a41 := Try.isAgg133,
  z41 := Try.sizeOf133,
  v41 := Try.zeroValue133,
  t44 := Try.underlying136,
  a44 := Try.isAgg136,
  z44 := Try.sizeOf136,
  v44 := Try.zeroValue136,
  t46 := Try.underlying118,
  a46 := Try.isAgg118,
  z46 := Try.sizeOf118,
  v46 := Try.zeroValue118,
  t53 := Try.underlying138,
  a53 := Try.isAgg138,
  z53 := Try.sizeOf138,
  v53 := Try.zeroValue138,
  t57 := Try.underlying142,
  a57 := Try.isAgg142,
  z57 := Try.sizeOf142,
  v57 := Try.zeroValue142,
  t63 := Try.underlying144,
  a63 := Try.isAgg144,
  z63 := Try.sizeOf144,
  v63 := Try.zeroValue144,
  t64 := Try.underlying145,
  a64 := Try.isAgg145,
  z64 := Try.sizeOf145,
  v64 := Try.zeroValue145 }
theorem slices_Sort_int64_int64.holds {w : World} {base e n cap g : Nat} {xs : List Int} (h : w.ownsRow base e 1 (.slice (some ⟨g, 0, none⟩) n cap) n (nums .i64 xs)) : ∃ cur, w.heap[g]? = some (.cells cur e (0, 0)) ∧ xs.length = n ∧ n ≤ cap ∧ cap ≤ maxLen ∧ base ≤ g ∧ cur.size = cap * 1 ∧ cur.toList.take xs.length = xs.map (Value.int .i64) := by
 have hl : xs.length = n := by have := h.1; simp [nums] at this; exact this
 rcases h.2 with ⟨h0, _⟩ | ⟨g', cap', cur, hv, hg, hb, h1, h2, h3, h4⟩
 ·cases h0
 injection hv with ha hn hc
 injection ha with ha
 injection ha with ha _ _
 subst ha hc; refine ⟨cur, hb, hl, h1, h2, hg, h3, ?_⟩; rw [hl]; rw [Nat.mul_one] at h4; exact h4
theorem slices_Sort_int64_int64.back {w : World} {base g cap n : Nat} {e : TypeId} {os : Array Obj} {cur : Array Value} {ss ts : List Int} {ok : Nat → Prop} (hl : ts.length = ss.length) (hbase : base ≤ g) (hb : w.heap[g]? = some (.cells cur e (0, 0)))
    (h1 : ss.length ≤ cap) (h2 : cap ≤ maxLen) (h3 : cur.size = cap * 1) (hok : ok g) : Kd.R (Kd.int .i64) e (Sort.grow (Sort.putRow (Value.int .i64) (Sort.ahead w n) g 0 ts.toArray) os) base ok (.slice (some ⟨g, 0, none⟩) ts.length cap) ts := by
 refine Kd.R_of_own (h1 := fun _ => rfl) ?_ (fun k hk => ?_)
 ·have := ownsRow_sortedI (n := n) (os := os) hl hbase hb h1 h2 h3; rw [← hl] at this; exact this
 ·simp [Value.ownBlock] at hk; rw [← hk]; exact hok
def slices_Sort_int64_int64.f (l0 : List Int) : Option (List Int) := if l0 = [] then none else if l0.length < 4611686018427387904 then some (l0.mergeSort fun x y => decide (x ≤ y)) else none
set_option maxHeartbeats 4000000 in
theorem slices_Sort_int64_int64.calls (P0_ : Nat → Prop) (u9000_ : Value) (l0 : List Int) (r : List Int) (w0 w : World) (hB : Below w0.heap.size w0 w) (ho0 : Kd.R (Kd.int .i64) 2 w w0.heap.size P0_ u9000_ l0) (h : slices_Sort_int64_int64.f l0 = some r) :
    Calls Try.prog 98 #[u9000_] w fun e w' => e = .returned (.tuple #[]) ∧ Kd.R (Kd.int .i64) 2 w' w0.heap.size (fun k_ => (P0_ k_ ∨ w.heap.size ≤ k_)) u9000_ r ∧ Below w0.heap.size w0 w' ∧ Kept w w' (fun k_ => P0_ k_) := by
 unfold slices_Sort_int64_int64.f at h; by_cases c : l0 = []
 ·rw [if_pos c] at h; cases h
 rw [if_neg c] at h; by_cases hsz : l0.length < 4611686018427387904
 case neg => rw [if_neg hsz] at h; cases h
 rw [if_pos hsz] at h; obtain rfl := Option.some.inj h
 have hp : 0 < l0.length := by cases l0 with | nil => exact absurd rfl c | cons _ _ => simp
 obtain ⟨g, cap, rfl, hgb, hgl, _⟩ := Kd.R_form ho0 hp; have hg : P0_ g := ho0.1 g (by simp [Value.ownBlock]); obtain ⟨cur, hb, hl, h1, h2, hbase, h3, h4⟩ := slices_Sort_int64_int64.holds (Kd.own_of_R ho0)
 have key : Calls Try.prog 98 #[.slice (some ⟨g, 0, none⟩) l0.length cap] w fun e w' => e = .returned (.tuple #[]) ∧ ∃ n os, w' = Sort.grow (Sort.putRow (Value.int .i64) (Sort.ahead w n) g 0 (l0.mergeSort fun x y => decide (x ≤ y)).toArray) os :=
  calls_of_every_depth fun D => AnySM.slices_Sort_int_in slices_Sort_int64_int64.lay D g 0 cap l0 w (holds_of_blockI hb h4) (Array.getElem?_eq_some_iff.1 hb).1 hsz
 refine key.mono ?_; rintro e w' ⟨rfl, n, os, rfl⟩; have hlen : (l0.mergeSort fun x y => decide (x ≤ y)).length = l0.length := List.length_mergeSort ..; have gr := grownBy_sortedI (w := w) (g := g) (n := n) (os := os) (l0.mergeSort fun x y => decide (x ≤ y)).toArray; have hr := slices_Sort_int64_int64.back (n := n) (os := os) (ok := fun k_ => (P0_ k_ ∨ w.heap.size ≤ k_)) hlen hbase hb h1 h2 h3 (.inl hg); rw [hlen] at hr; refine ⟨rfl, hr, pw_below_grown hB (some g) (Nat.le_trans hbase (Nat.le_of_lt (Array.getElem?_eq_some_iff.1 hb).1)) gr (fun k hk => by cases hk; exact hbase), Kept.of_grown gr (Kept.refl _ _) (fun k hk => by cases hk; exact .inl hg)⟩

/-! ### slices_Compact_int64_int64: function 99 -/
-- given by hand
def slices_Compact_int64_int64.ren : Go.Shelf.Ren := ⟨fun | 43 => 99 | n => n, fun | 22 => 22 | 23 => 2 | 3 => 3 | 4 => 4 | 0 => 0 | n => n, fun | n => n⟩
theorem slices_Compact_int64_int64.lay : Go.Proofs.SlLaysN.n43 Try.prog slices_Compact_int64_int64.ren := {
  mixed := by kernel_rfl,
  f43 := ⟨ "slices.Compact[[]int64,int64]", by decide, Try.func99.trans (congrArg some (by kernel_rfl))⟩,
  t0 := Try.underlying0,
  a0 := Try.isAgg0,
  z0 := Try.sizeOf0,
  v0 := Try.zeroValue0,
  t3 := Try.underlying3,
  a3 := Try.isAgg3,
  z3 := Try.sizeOf3,
  v3 := Try.zeroValue3,
  t4 := Try.underlying4,
  a4 := Try.isAgg4,
  z4 := Try.sizeOf4,
  v4 := Try.zeroValue4,
  t22 := Try.underlying22,
  a22 := Try.isAgg22,
  z22 := Try.sizeOf22,
  v22 := Try.zeroValue22,
  t23 := Try.underlying2,
  a23 := Try.isAgg2,
  z23 := Try.sizeOf2,
  v23 := Try.zeroValue2,
  i23 := by kernel_rfl }
theorem slices_Compact_int64_int64.holds {w : World} {base e n cap g : Nat} {xs : List Int} (h : w.ownsRow base e 1 (.slice (some ⟨g, 0, none⟩) n cap) n (nums .i64 xs)) : ∃ cur, w.heap[g]? = some (.cells cur e (0, 0)) ∧ xs.length = n ∧ n ≤ cap ∧ cap ≤ maxLen ∧ base ≤ g ∧ cur.size = cap * 1 ∧ cur.toList.take xs.length = xs.map (Value.int .i64) := by
 have hl : xs.length = n := by have := h.1; simp [nums] at this; exact this
 rcases h.2 with ⟨h0, _⟩ | ⟨g', cap', cur, hv, hg, hb, h1, h2, h3, h4⟩
 ·cases h0
 injection hv with ha hn hc
 injection ha with ha
 injection ha with ha _ _
 subst ha hc; refine ⟨cur, hb, hl, h1, h2, hg, h3, ?_⟩; rw [hl]; rw [Nat.mul_one] at h4; exact h4
theorem slices_Compact_int64_int64.back {w : World} {base g cap n : Nat} {e : TypeId} {os : Array Obj} {cur : Array Value} {ss ts : List Int} {ok : Nat → Prop} (hl : ts.length = ss.length) (hbase : base ≤ g) (hb : w.heap[g]? = some (.cells cur e (0, 0)))
    (h1 : ss.length ≤ cap) (h2 : cap ≤ maxLen) (h3 : cur.size = cap * 1) (hok : ok g) : Kd.R (Kd.int .i64) e (Sort.grow (Sort.putRow (Value.int .i64) (Sort.ahead w n) g 0 ts.toArray) os) base ok (.slice (some ⟨g, 0, none⟩) ts.length cap) ts := by
 refine Kd.R_of_own (h1 := fun _ => rfl) ?_ (fun k hk => ?_)
 ·have := ownsRow_sortedI (n := n) (os := os) hl hbase hb h1 h2 h3; rw [← hl] at this; exact this
 ·simp [Value.ownBlock] at hk; rw [← hk]; exact hok
def slices_Compact_int64_int64.f (l0 : List Int) : Option (List Int) := if l0 = [] then none else some (Go.Lib.compact l0)
set_option maxHeartbeats 4000000 in
theorem slices_Compact_int64_int64.calls (P0_ : Nat → Prop) (u9000_ : Value) (l0 : List Int) (r : List Int) (w0 w : World) (hB : Below w0.heap.size w0 w) (ho0 : Kd.R (Kd.int .i64) 2 w w0.heap.size P0_ u9000_ l0) (h : slices_Compact_int64_int64.f l0 = some r) :
    Calls Try.prog 99 #[u9000_] w fun e w' => ∃ v0_ : Value, e = .returned (v0_) ∧ Kd.R (Kd.int .i64) 2 w' w0.heap.size (fun k_ => (P0_ k_ ∨ w.heap.size ≤ k_)) v0_ r ∧ Below w0.heap.size w0 w' ∧ Kept w w' (fun k_ => P0_ k_) := by
 unfold slices_Compact_int64_int64.f at h; by_cases c : l0 = []
 ·rw [if_pos c] at h; cases h
 rw [if_neg c] at h; obtain rfl := Option.some.inj h
 have hp : 0 < l0.length := by cases l0 with | nil => exact absurd rfl c | cons _ _ => simp
 obtain ⟨g, cap, rfl, hgb, hgl, _⟩ := Kd.R_form ho0 hp; have hg : P0_ g := ho0.1 g (by simp [Value.ownBlock]); obtain ⟨cur, hb, hl, h1, h2, hbase, h3, h4⟩ := slices_Compact_int64_int64.holds (Kd.own_of_R ho0)
 have hsz : l0.length ≤ 9223372036854775807 := by unfold maxLen at h2; omega
 refine (AnyG.slices_Compact_int slices_Compact_int64_int64.lay g 0 cap l0 w (holds_of_blockI hb h4) hsz h1).mono ?_; rintro e w' ⟨rfl, q, rfl⟩
 have hle : (Go.Lib.compact l0).length ≤ l0.length := by unfold Go.Lib.compact Go.Lib.compactUpTo; rw [List.length_map]; exact Nat.le_trans (List.length_filter_le ..) (by simp)
 have hlen : (Go.Lib.compact l0 ++ List.replicate (l0.length - (Go.Lib.compact l0).length) 0).length = l0.length := by rw [List.length_append, List.length_replicate]; omega
 have gr := grownBy_sortedI (w := w) (g := g) (n := q) (os := #[]) (Go.Lib.compact l0 ++ List.replicate (l0.length - (Go.Lib.compact l0).length) 0).toArray; have hr := slices_Compact_int64_int64.back (n := q) (os := #[]) (ok := fun k_ => (P0_ k_ ∨ w.heap.size ≤ k_)) hlen hbase hb h1 h2 h3 (.inl hg); rw [Sort.grow_empty] at gr hr; have ht := Kd.R_take hr (m := (Go.Lib.compact l0).length) (by rw [hlen]; exact hle); rw [List.take_left'] at ht
 ·exact ⟨_, rfl, ht, pw_below_grown hB (some g) (Nat.le_trans hbase (Nat.le_of_lt (Array.getElem?_eq_some_iff.1 hb).1)) gr (fun k hk => by cases hk; exact hbase), Kept.of_grown gr (Kept.refl _ _) (fun k hk => by cases hk; exact .inl hg)⟩
 ·rfl

/-! ### slices_Index_int64_int64: function 100 -/
def slices_Index_int64_int64.l0 : Nat → List Int → Int → Int → Int → Option (Int)
  | 0, _, _, _, _ => none
  | k + 1, x0, x1, x7, x8 => if x8 < x7 then (if 0 ≤ x8 then (if x8 < (x0.length : Int) then (if x1 = (rd x0 x8) then (some x8) else (slices_Index_int64_int64.l0 k x0 x1 x7 (wrap64 (x8 + 1)))) else (none)) else (none)) else (some (-1))
def slices_Index_int64_int64.f (k : Nat) (l0 : List Int) (a1 : Int) : Option (Int) := slices_Index_int64_int64.l0 k l0 a1 (l0.length : Int) 0
theorem slices_Index_int64_int64.mono_l : ∀ k, (∀ y0 y1 y2 y3, LeO (slices_Index_int64_int64.l0 k y0 y1 y2 y3) (slices_Index_int64_int64.l0 (k + 1) y0 y1 y2 y3))
  | 0 => fun _ _ _ _ r h => by simp [slices_Index_int64_int64.l0] at h
  | k + 1 => by
   have ih0 := slices_Index_int64_int64.mono_l k
   intros
   unfold slices_Index_int64_int64.l0
   all_goals repeat' first | (with_reducible first | apply ih0 | exact LeO.refl _ | exact LeO.none _ | refine LeO.ite ?_ ?_ | refine LeO.bind ?_ (fun _ => ?_)) | apply ih0 | exact LeO.none _ | refine LeO.ite ?_ ?_ | refine LeO.bind ?_ (fun _ => ?_)
theorem slices_Index_int64_int64.mono : ∀ a0 a1 k, LeO (slices_Index_int64_int64.f k a0 a1) (slices_Index_int64_int64.f (k + 1) a0 a1) := by
  intro a0 a1 k
  have ih0 := slices_Index_int64_int64.mono_l k
  unfold slices_Index_int64_int64.f
  repeat' first | (with_reducible first | apply ih0 | exact LeO.refl _ | exact LeO.none _ | refine LeO.ite ?_ ?_ | refine LeO.bind ?_ (fun _ => ?_)) | apply ih0 | exact LeO.none _ | refine LeO.ite ?_ ?_ | refine LeO.bind ?_ (fun _ => ?_)
set_option maxHeartbeats 8000000 in
set_option maxRecDepth 100000 in
theorem slices_Index_int64_int64.calls (k : Nat) (A0 : Option Addr) (c0 : Nat) (l0 : List Int) (a1 : Int) (r : Int) (w : World) (hr0 : Kd.C (Kd.int .i64) w A0 l0.length l0) (hc0 : l0.length ≤ c0) (h : slices_Index_int64_int64.f k l0 a1 = some r) :
    Calls Try.prog 100 #[.slice A0 l0.length c0, .int .i64 a1] w fun e w' => e = .returned (.int .i64 r) ∧ Drawn0 w w' := by
 have HR0 := mA hr0; have HC0 := mA hc0; clear hr0 hc0; have H : (slices_Index_int64_int64.l0 k l0 a1 (l0.length : Int) 0) = some r := h; clear h; have H' := mA H; clear H; go_enter Try.func100, Try.ntmps100; go_wp2; go_loopg [8] k (fun kq v8 w' => ∃ (x8_1 : Int), v8 = .int .i64 x8_1 ∧ Aside0 (slices_Index_int64_int64.l0 kq l0 a1 (l0.length : Int) x8_1 = some r) ∧ Aside0 (kq ≤ k) ∧ Drawn0 w w')
 case atStart => exact ⟨(0), zq3, H', ⟨Nat.le_refl _⟩, zq10⟩
 case round =>
  clear H'; obtain ⟨x8_1, rfl, HA, HK1, ⟨m1, rfl⟩⟩ := hrel
  cases gk with
  | zero => exact absurd HA.out (by simp [slices_Index_int64_int64.l0])
  | succ k1 =>
   have H := HA.out; clear HA; simp only [slices_Index_int64_int64.l0] at H; refine sqC (x8_1 < (l0.length : Int)) (fun c3 => ?_) (fun c3 => ?_)
   ·rw [if_neg c3] at H; replace c3 := decide_eq_false c3; obtain rfl := Option.some.inj H; go_wp2; go_ret; exact ⟨zq3, zq10⟩
   rw [if_pos c3] at H; replace c3 := decide_eq_true c3; obtain ⟨c4, H⟩ := sqI H; replace c4 := decide_eq_true c4; obtain ⟨c5, H⟩ := sqI H; replace c5 := decide_eq_true c5; by_cases c6 : a1 = (rd l0 x8_1)
   ·rw [if_pos c6] at H; have c6b0 : (a1 == (rd l0 x8_1)) = true := beq_iff_eq.mpr c6; have c6b1 : (a1 != (rd l0 x8_1)) = false := bne_eq_false_iff_eq.mpr c6; clear c6; obtain rfl := Option.some.inj H; have p215 : 0 ≤ (x8_1 : Int) := sqd; have q215 : x8_1 < (l0.length : Int) := sqd; obtain ⟨ad215, e215, hx215_0⟩ := Kd.at_int HR0.out x8_1 p215 q215
    cases e215
    replace p215 := eq_true p215; replace q215 := eq_true q215; go_wp2; go_ret; exact ⟨zq3, zq10⟩
   rw [if_neg c6] at H; have c6b0 : (a1 == (rd l0 x8_1)) = false := beq_eq_false_iff_ne.mpr c6; have c6b1 : (a1 != (rd l0 x8_1)) = true := bne_iff_ne.mpr c6; have H' := mA H; clear H; have p215 : 0 ≤ (x8_1 : Int) := sqd; have q215 : x8_1 < (l0.length : Int) := sqd; obtain ⟨ad215, e215, hx215_0⟩ := Kd.at_int HR0.out x8_1 p215 q215
   cases e215
   replace p215 := eq_true p215; replace q215 := eq_true q215; go_wp2; go_roundg k1
   case measure => have := HK1.out; omega
   case rel => exact ⟨(wrap64 (x8_1 + 1)), zq3, H', ⟨zq22 HK1⟩, zq10⟩

/-! ### impl_SumWeights: function 46 -/
def impl_SumWeights.l0 : Nat → List Int → List Int → List (List Int) → Int → Int → List Int → List (List Int) → Option (List Int × List Int × Bool)
  | 0, _, _, _, _, _, _, _ => none
  | k + 1, x5, x6, x23, x24, x25, x217000, x217001 => if x25 < x24 then (if 0 ≤ x25 then (if x25 < (x23.length : Int) then ((impl_sum.f k (rd_L1 x23 x25)).bind fun t229 => ((slices_Index_int64_int64.f k x5 t229).bind fun t230 => (if 0 ≤ t230 then (if t230 < (x6.length : Int) then (if x25 < (x217000.length : Int) then (impl_SumWeights.l0 k x5 (x6.set (t230 : Int).toNat (wrap64 ((rd x6 t230) + (rd x217000 x25)))) x23 x24 (wrap64 (x25 + 1)) x217000 x217001) else (none)) else (none)) else (none)))) else (none)) else (none)) else (some (x5, x6, true))
def impl_SumWeights.f (k : Nat) (l0_0 : List Int) (l0_1 : List (List Int)) : Option (List Int × List Int × Bool) := (impl_ValidMixture.f k l0_0 l0_1).bind fun t217 => (if t217 = true then ((impl_sums.f k l0_1).bind fun t218 => ((slices_Sort_int64_int64.f t218).bind fun t221 => ((slices_Compact_int64_int64.f t221).bind fun t222 => (if 0 ≤ (t222.length : Int) then (if ((t222.length : Int) : Int).toNat ≤ 35184372088832 then (impl_SumWeights.l0 k t222 (List.replicate ((t222.length : Int) : Int).toNat 0) l0_1 (l0_1.length : Int) 0 l0_0 l0_1) else (none)) else (none))))) else (some (([] : List Int), ([] : List Int), false)))
theorem impl_SumWeights.mono_l : ∀ k, (∀ y0 y1 y2 y3 y4 y5 y6, LeO (impl_SumWeights.l0 k y0 y1 y2 y3 y4 y5 y6) (impl_SumWeights.l0 (k + 1) y0 y1 y2 y3 y4 y5 y6))
  | 0 => fun _ _ _ _ _ _ _ r h => by simp [impl_SumWeights.l0] at h
  | k + 1 => by
   have ih0 := impl_SumWeights.mono_l k
   intros
   unfold impl_SumWeights.l0
   all_goals repeat' first | (with_reducible first | apply ih0 | apply impl_ValidMixture.mono | apply impl_sum.mono | apply impl_sums.mono | apply slices_Index_int64_int64.mono | exact LeO.refl _ | exact LeO.none _ | refine LeO.ite ?_ ?_ | refine LeO.bind ?_ (fun _ => ?_)) | apply ih0 | apply impl_ValidMixture.mono | apply impl_sum.mono | apply impl_sums.mono | apply slices_Index_int64_int64.mono | exact LeO.none _ | refine LeO.ite ?_ ?_ | refine LeO.bind ?_ (fun _ => ?_)
theorem impl_SumWeights.mono : ∀ a0 a1 k, LeO (impl_SumWeights.f k a0 a1) (impl_SumWeights.f (k + 1) a0 a1) := by
  intro a0 a1 k
  have ih0 := impl_SumWeights.mono_l k
  unfold impl_SumWeights.f
  repeat' first | (with_reducible first | apply ih0 | apply impl_ValidMixture.mono | apply impl_sum.mono | apply impl_sums.mono | apply slices_Index_int64_int64.mono | exact LeO.refl _ | exact LeO.none _ | refine LeO.ite ?_ ?_ | refine LeO.bind ?_ (fun _ => ?_)) | apply ih0 | apply impl_ValidMixture.mono | apply impl_sum.mono | apply impl_sums.mono | apply slices_Index_int64_int64.mono | exact LeO.none _ | refine LeO.ite ?_ ?_ | refine LeO.bind ?_ (fun _ => ?_)
def impl_SumWeights.T10 : Bool × List (List Nat × List Nat) := (true, [([], []), ([], []), ([], []), ([2], [2]), ([1, 3, 3], [1, 3]), ([0, 4], [0, 4]), ([5], [5]), ([], []), ([7], [7]), ([], []), ([8, 9], [8, 9]), ([10], [10]), ([6, 11], [6, 11]), ([0, 4, 0, 1, 2, 3, 4, 5, 6, 7, 8, 9, 10, 11, 12], [0, 4]), ([13, 12, 4, 0, 1, 2, 3, 4, 5, 6, 7, 8, 9, 10, 11, 12], [12, 13])])
def impl_SumWeights.B10 : List Nat := [0, 0, 0, 4, 14, 31, 63, 0, 128, 0, 896, 1920, 4095, 8191, 16383]
theorem impl_SumWeights.tab10 : rtab .any (opsOf Try.f46 10) = impl_SumWeights.T10 := by kernel_rfl
theorem impl_SumWeights.bits10 : waitsOk impl_SumWeights.T10.2 impl_SumWeights.B10 = true := by kernel_rfl
set_option maxHeartbeats 8000000 in
set_option maxRecDepth 100000 in
theorem impl_SumWeights.calls (k : Nat) (A0_0 : Option Addr) (c0_0 : Nat) (l0_0 : List Int) (A0_1 : Option Addr) (c0_1 : Nat) (l0_1 : List (List Int)) (r1 : List Int) (r2 : List Int) (r3 : Bool) (w : World) (hr0_0 : Kd.C (Kd.int .i64) w A0_0 l0_0.length l0_0) (hc0_0 : l0_0.length ≤ c0_0) (hr0_1 : Kd.C (Kd.slice 2 (Kd.int .i64)) w A0_1 l0_1.length l0_1) (hc0_1 : l0_1.length ≤ c0_1) (h : impl_SumWeights.f k l0_0 l0_1 = some (r1, r2, r3)) :
    Calls Try.prog 46 #[.agg #[.slice A0_0 l0_0.length c0_0, .slice A0_1 l0_1.length c0_1]] w fun e w' => ∃ v0_ v1_ : Value, e = .returned (.tuple #[v0_, v1_, .bool r3]) ∧ Kd.R (Kd.int .i64) 2 w' w.heap.size (fun k_ => some k_ ≠ (v1_ : Value).ownBlock) v0_ r1 ∧ Kd.R (Kd.int .i64) 2 w' w.heap.size (fun k_ => some k_ ≠ (v0_ : Value).ownBlock) v1_ r2 ∧ Below w.heap.size w w' := by
 have hu29 := Try.underlying29; have HR0_0 := mA hr0_0; have HC0_0 := mA hc0_0; clear hr0_0 hc0_0; have HR0_1 := mA hr0_1; have HC0_1 := mA hc0_1; clear hr0_1 hc0_1; have HB := mA (Below.refl w.heap.size w); have H : ((impl_ValidMixture.f k l0_0 l0_1).bind fun t217 => (if t217 = true then ((impl_sums.f k l0_1).bind fun t218 => ((slices_Sort_int64_int64.f t218).bind fun t221 => ((slices_Compact_int64_int64.f t221).bind fun t222 => (if 0 ≤ (t222.length : Int) then (if ((t222.length : Int) : Int).toNat ≤ 35184372088832 then (impl_SumWeights.l0 k t222 (List.replicate ((t222.length : Int) : Int).toNat 0) l0_1 (l0_1.length : Int) 0 l0_0 l0_1) else (none)) else (none))))) else (some (([] : List Int), ([] : List Int), false)))) = some (r1, r2, r3) := h; clear h; obtain ⟨t217, A2, H⟩ := sqB H; refine sqC (t217 = true) (fun c3 => ?_) (fun c3 => ?_)
 ·replace c3 := Bool.eq_false_iff.mpr c3; subst c3; rw [if_neg (show ¬ (false = true) by decide)] at H; simp only [Option.some.injEq, Prod.mk.injEq] at H; obtain ⟨rfl, rfl, rfl⟩ := H; go_enter Try.func46, Try.ntmps46; go_wp2_with (first | (refine sqX 1 #[.slice A0_0 l0_0.length c0_0, .slice A0_1 l0_1.length c0_1] 29 ?_; intro gb216 hg w33 hbox hb; have BK216 := mA (hbox); have GW216 := mA ((zq18 : w.heap.size ≤ gb216)); have GE216 := mA ((zq18 : w.heap.size ≤ gb216)); replace HB := mA (below_step zq6 hb); clear hb hbox hg; have hcz34_0 := sqZ0 BK216; have hcz34_1 := sqZ1 BK216; have hfz34_0 := blk_frozen BK216.out 0; have hfz34_1 := blk_frozen BK216.out 1) | (refine sqG 52 (some 10) Try.func52 #[.agg #[.slice A0_0 l0_0.length c0_0, .slice A0_1 l0_1.length c0_1]] (h := ?_); (with_reducible refine (impl_ValidMixture.calls k _ _ l0_0 _ _ l0_1 false _ ?s1 ?s2 ?s3 ?s4 A2.out).mono ?_); (case s1 => exact zq8 HR0_0); (case s2 => exact HC0_0.out); (case s3 => exact zq8 HR0_1); (case s4 => exact HC0_1.out); rintro e w35 ⟨rfl, hb⟩; refine ⟨_, rfl, ?_⟩; replace BK216 := mA (blk_below (g := gb216) (o := .cells #[.slice A0_0 l0_0.length c0_0, .slice A0_1 l0_1.length c0_1] 29 (0, 0)) (zq0 BK216) hb); replace HB := mA (below_step zq1 hb); (try clear hb))); go_ret3; exact ⟨_, _, zq7, zq41, zq41, zq1⟩
 subst c3; rw [if_pos rfl] at H; obtain ⟨t218, A4, H⟩ := sqB H; obtain ⟨t221, A5, H⟩ := sqB H; obtain ⟨t222, A6, H⟩ := sqB H; obtain ⟨c7, H⟩ := sqI H; have c7b0 := eq_true c7; have c7b1 := decide_eq_true c7; clear c7; obtain ⟨c8, H⟩ := sqI H; have c8b0 := eq_true c8; have c8b1 := decide_eq_true c8; clear c8; obtain ⟨y225, hy225⟩ : ∃ y_ : List Int, y_ = (List.replicate ((t222.length : Int) : Int).toNat 0) := ⟨_, rfl⟩
 replace H : (impl_SumWeights.l0 k t222 y225 l0_1 (l0_1.length : Int) 0 l0_0 l0_1) = some (r1, r2, r3) := by first | (rw [hy225]; with_reducible exact H) | (have H2_ := (Option.bind_some _ _).symm.trans H; rw [hy225]; with_reducible exact H2_) | (have H2_ := (Option.bind_some _ _).symm.trans H; with_reducible exact H2_) | with_reducible exact H | (rw [hy225]; exact H) | exact H
 have Ny225 := mA hy225; clear hy225; have H' := mA H; clear H; go_enter Try.func46, Try.ntmps46
 go_wp2_with (first | (refine sqX 1 #[.slice A0_0 l0_0.length c0_0, .slice A0_1 l0_1.length c0_1] 29 ?_; intro gb216 hg w9 hbox hb; have BK216 := mA (hbox); have GW216 := mA ((zq18 : w.heap.size ≤ gb216)); have GE216 := mA ((zq18 : w.heap.size ≤ gb216)); replace HB := mA (below_step zq6 hb); clear hb hbox hg; have hcz10_0 := sqZ0 BK216; have hcz10_1 := sqZ1 BK216; have hfz10_0 := blk_frozen BK216.out 0; have hfz10_1 := blk_frozen BK216.out 1) | (refine sqG 52 (some 10) Try.func52 #[.agg #[.slice A0_0 l0_0.length c0_0, .slice A0_1 l0_1.length c0_1]] (h := ?_); (with_reducible refine (impl_ValidMixture.calls k _ _ l0_0 _ _ l0_1 true _ ?s1 ?s2 ?s3 ?s4 A2.out).mono ?_); (case s1 => exact zq8 HR0_0); (case s2 => exact HC0_0.out); (case s3 => exact zq8 HR0_1); (case s4 => exact HC0_1.out); rintro e w11 ⟨rfl, hb⟩; refine ⟨_, rfl, ?_⟩; replace BK216 := mA (blk_below (g := gb216) (o := .cells #[.slice A0_0 l0_0.length c0_0, .slice A0_1 l0_1.length c0_1] 29 (0, 0)) (zq0 BK216) hb); replace HB := mA (below_step zq1 hb); (try clear hb); have hcz12_0 := sqZ0 BK216; have hcz12_1 := sqZ1 BK216; have hfz12_0 := blk_frozen BK216.out 0; have hfz12_1 := blk_frozen BK216.out 1) | (refine sqG 97 (some 14) Try.func97 #[.slice A0_1 l0_1.length c0_1] (h := ?_); (with_reducible refine (impl_sums.calls k _ _ l0_1 t218 _ ?s1 ?s2 A4.out).mono ?_); (case s1 => exact zq8 HR0_1); (case s2 => exact HC0_1.out); rintro e w13 ⟨v219, rfl, ho0, hb⟩; refine ⟨_, rfl, ?_⟩; have HO220 := mA (Kd.R_lower ho0 (below_size zq1)); replace BK216 := mA (blk_below (g := gb216) (o := .cells #[.slice A0_0 l0_0.length c0_0, .slice A0_1 l0_1.length c0_1] 29 (0, 0)) (zq0 BK216) hb); replace HB := mA (below_step zq1 hb); (try clear hb ho0); obtain ⟨Ao14, co14, eo14⟩ := Kd.R_slice HO220.out; subst eo14) | (refine sqG 98 (some 16) Try.func98 #[.slice Ao14 t218.length co14] (h := ?_); (with_reducible refine (slices_Sort_int64_int64.calls (fun k_ => some k_ = (.slice Ao14 t218.length co14 : Value).ownBlock) (.slice Ao14 t218.length co14) t218 t221 w _ ?s1 ?s2 A5.out).mono ?_); (case s1 => exact zq1); (case s2 => exact Kd.R_tight rfl HO220.out); rintro e w15 ⟨rfl, hy0, hb, hkp⟩; refine ⟨_, rfl, ?_⟩; replace BK216 := mA (blk_kept (zq0 BK216) hkp (fun hs_ => (fun e_ => (Kd.R_ne HO220.out BK216.out (by decide)) e_) hs_)); replace HO220 := mA (Kd.R_reok rfl hy0 (fun k_ e_ => HO220.out.1 k_ e_)); replace HB := mA (hb); (try clear hb); (try clear hkp); (try clear hy0)) | (refine sqG 99 (some 18) Try.func99 #[.slice Ao14 t218.length co14] (h := ?_); (with_reducible refine (slices_Compact_int64_int64.calls (fun k_ => some k_ = (.slice Ao14 t218.length co14 : Value).ownBlock) (.slice Ao14 t218.length co14) t221 t222 w _ ?s1 ?s2 A6.out).mono ?_); (case s1 => exact zq1); (case s2 => exact Kd.R_tight rfl HO220.out); rintro e w16 ⟨v223, rfl, ho0, hb, hkp⟩; refine ⟨_, rfl, ?_⟩; replace BK216 := mA (blk_kept (zq0 BK216) hkp (fun hs_ => (fun e_ => (Kd.R_ne HO220.out BK216.out (by decide)) e_) hs_)); have HO224 := mA (Kd.R_mono (ok' := fun k_ => True) ho0 (fun k_ hk_ => trivial)); replace HB := mA (hb); clear HO220; (try clear hb); (try clear hkp); (try clear ho0); obtain ⟨Ao17, co17, eo17⟩ := Kd.R_slice HO224.out; subst eo17) | ((with_reducible refine gate_dst (N := 21) rfl ?_); refine Kd.R_make (Kd.int .i64) _ 2 rfl (N := 21) rfl 22 _ _ rfl (t222.length : Int) rfl rfl Try.underlying22 (.int .i64 0) 8 info2 rfl (by decide) (by omega) 0 (ok := fun _ => True) (okp := fun _ => True) rfl (fun _ hk => hk) trivial (sqd) (Nat.le_trans (Nat.mul_le_mul_right _ (sqd : (t222.length : Int).toNat ≤ 35184372088832)) (by omega)) (Below.refl _ _) (Nat.le_refl _) ?_; intro v226 w18 ho19 hb hg_ hnew_; clear hg_ hnew_; (first | rw [← Ny225.out] at ho19 | (simp only [Int.reduceToNat] at ho19; rw [← Ny225.out] at ho19)); have HO227 := mA (Kd.R_lower (Kd.R_new' ho19 (Kd.R_lt (zq2 HO224))) (below_size zq1)); replace HO224 := mA (Kd.R_elder' (zq2 HO224) (Kd.R_base ho19) hb); replace BK216 := mA (blk_below (g := gb216) (o := .cells #[.slice A0_0 l0_0.length c0_0, .slice A0_1 l0_1.length c0_1] 29 (0, 0)) (zq0 BK216) hb); replace HB := mA (below_step zq1 hb); clear hb ho19; have hcz20_0 := sqZ0 BK216; have hcz20_1 := sqZ1 BK216; have hfz20_0 := blk_frozen BK216.out 0; have hfz20_1 := blk_frozen BK216.out 1))
 go_loopg [25] k (fun kq v25 w' => ∃ (x6_1 : List Int) (x25_1 : Int), v25 = .int .i64 x25_1 ∧ Aside0 (impl_SumWeights.l0 kq t222 x6_1 l0_1 (l0_1.length : Int) x25_1 l0_0 l0_1 = some (r1, r2, r3)) ∧ Aside0 (kq ≤ k) ∧ Aside0 (Kd.R (Kd.int .i64) 2 w' w.heap.size (fun k_ => some k_ ≠ (v226 : Value).ownBlock) (.slice Ao17 t222.length co17) t222) ∧ Aside0 (Kd.R (Kd.int .i64) 2 w' w.heap.size (fun k_ => some k_ ≠ ((.slice Ao17 t222.length co17) : Value).ownBlock) v226 x6_1) ∧ Aside0 (w'.heap[gb216]? = some (.cells #[(.slice A0_0 l0_0.length c0_0), (.slice A0_1 l0_1.length c0_1)] 29 (0, 0))) ∧ Aside0 (Below w.heap.size w w'))
 case atStart => exact ⟨(y225), (0), zq3, H', ⟨Nat.le_refl _⟩, ⟨zq70 HO224⟩, ⟨zq70 HO227⟩, ⟨zq0 BK216⟩, ⟨zq1⟩⟩
 case round =>
  clear H'; (try clear c3); (try clear c7); (try clear c7b0); (try clear c7b1); (try clear c8); (try clear c8b0); (try clear c8b1); (try clear hcz10_0); (try clear hcz10_1); (try clear hcz12_0); (try clear hcz12_1); (try clear hcz20_0); (try clear hcz20_1); (try clear hfz10_0); (try clear hfz10_1); (try clear hfz12_0); (try clear hfz12_1); (try clear hfz20_0); (try clear hfz20_1); obtain ⟨x6_1, x25_1, rfl, HA, HK1, HO_5, HO_6, BK216, HB⟩ := hrel
  cases gk with
  | zero => exact absurd HA.out (by simp [impl_SumWeights.l0])
  | succ k1 =>
   have H := HA.out; clear HA; simp only [impl_SumWeights.l0] at H; refine sqC (x25_1 < (l0_1.length : Int)) (fun c21 => ?_) (fun c21 => ?_)
   ·rw [if_neg c21] at H; replace c21 := decide_eq_false c21; simp only [Option.some.injEq, Prod.mk.injEq] at H; obtain ⟨rfl, rfl, rfl⟩ := H; go_wp2; go_ret3; exact ⟨_, _, zq7, zq2 HO_5, zq2 HO_6, zq1⟩
   rw [if_pos c21] at H; replace c21 := decide_eq_true c21; obtain ⟨c22, H⟩ := sqI H; replace c22 := decide_eq_true c22; obtain ⟨c23, H⟩ := sqI H; replace c23 := decide_eq_true c23; obtain ⟨t229, A24, H⟩ := sqB H; obtain ⟨t230, A25, H⟩ := sqB H; obtain ⟨c26, H⟩ := sqI H; replace c26 := decide_eq_true c26; obtain ⟨c27, H⟩ := sqI H; replace c27 := decide_eq_true c27; obtain ⟨c28, H⟩ := sqI H; replace c28 := decide_eq_true c28; obtain ⟨y233, hy233⟩ : ∃ y_ : List Int, y_ = (x6_1.set (t230 : Int).toNat (wrap64 ((rd x6_1 t230) + (rd l0_0 x25_1)))) := ⟨_, rfl⟩
   replace H : (impl_SumWeights.l0 k1 t222 y233 l0_1 (l0_1.length : Int) (wrap64 (x25_1 + 1)) l0_0 l0_1) = some (r1, r2, r3) := by first | (rw [hy233]; with_reducible exact H) | (have H2_ := (Option.bind_some _ _).symm.trans H; rw [hy233]; with_reducible exact H2_) | (have H2_ := (Option.bind_some _ _).symm.trans H; with_reducible exact H2_) | with_reducible exact H | (rw [hy233]; exact H) | exact H
   have Ny233 := mA hy233; clear hy233; have H' := mA H; clear H; have p228 : 0 ≤ (x25_1 : Int) := sqd; have q228 : x25_1 < (l0_1.length : Int) := sqd; obtain ⟨ad228, A228_0, c228_0, e228, hx228_0, hl228_0, hi228_0⟩ := at_L1 HR0_1.out x25_1 p228 q228
   cases e228
   replace hx228_0 := sqh HB hx228_0; have HR228_0 := mA hi228_0; have HC228_0 := mA hl228_0; clear hi228_0 hl228_0; replace p228 := eq_true p228; replace q228 := eq_true q228; (try go_wp2); replace HO_5 := mA (Kd.R_drew HO_5.out); replace HO_6 := mA (Kd.R_drew HO_6.out); replace BK216 := mA (blk_drew BK216.out); replace HB := mA (below_drew1 HB.out); have p232 : 0 ≤ (x25_1 : Int) := sqd; have q232 : x25_1 < (l0_0.length : Int) := sqd; obtain ⟨ad232, e232, hx232_0⟩ := Kd.at_int HR0_0.out x25_1 p232 q232; have hw232_0 := hx232_0
   cases e232
   replace hx232_0 := sqh HB hx232_0; replace p232 := eq_true p232; replace q232 := eq_true q232; have p231 : 0 ≤ (t230 : Int) := sqd; have q231 : t230 < (x6_1.length : Int) := sqd; obtain ⟨go29, co29, eoz, gbz, glz, clz, HGz⟩ := Kd.R_form HO_6.out (by omega); subst eoz; clear gbz glz clz HGz; obtain ⟨ad231, e231, hx231_0⟩ := Kd.at_int (Kd.R_reads' HO_6.out).2.2 t230 p231 q231
   cases e231
   simp only [add_plain] at hx231_0; replace p231 := eq_true p231; replace q231 := eq_true q231; refine start_ (n := 15) (S := fun w' => w'.cell? ⟨gb216, 0, none⟩ = some (.slice (some ad232) l0_0.length c0_0) ∧ w'.cell? ⟨gb216, 1, none⟩ = some (.slice (some ad228) l0_1.length c0_1) ∧ w'.cell? (ad232.add (x25_1).toNat) = some (.int .i64 (rd l0_0 x25_1)) ∧ w'.cell? ⟨go29, (t230 : Int).toNat, none⟩ = some (.int .i64 (rd x6_1 t230))) (ds := [14]) #[false, false, false, false, false, false, false, false, false, false, false, false, false, false, false] (by kernel_rfl) rfl rfl ⟨(blk_cell BK216.out 0).trans rfl, (blk_cell BK216.out 1).trans rfl, ((HB.out.cell (World.block_lt_of_cell? w _ hw232_0)).trans hw232_0), hx231_0⟩ (fun hHeld => ?_); refine with_tabW impl_SumWeights.tab10 impl_SumWeights.bits10 (fun HT_ HW_ => ?_); generalize wr.drew = w30 at HO_5 HO_6 BK216 HB hx231_0 hx232_0 hHeld ⊢; refine sqr0 0 (some 30) ?_; refine sqr0 1 (some 31) ?_; refine sqr0 2 (some 32) ?_; refine sqr0 7 (some 37) ?_; refine sqr0 9 (some 39) ?_; refine sqr7 8 (some 38) ?_; refine sqr0 10 (some 40) ?_; refine sqr7 11 (some 41) ?_; refine sqr2 3 (some 33) (fun K hK => ?_); refine goes_ Try.func69 (by kernel_rfl) rfl #[.slice A228_0 (rd_L1 l0_1 x25_1).length c228_0] (by rfl) rfl rfl zq11 ?_; (with_reducible refine (impl_sum.calls k1 _ _ (rd_L1 l0_1 x25_1) t229 _ ?s1 ?s2 A24.out).mono ?_); (case s1 => exact zq8 HR228_0); (case s2 => exact HC228_0.out); rintro e w' ⟨rfl, ⟨nd, rfl⟩⟩; refine ⟨_, rfl, ?_⟩; refine hK.out _ _ ⟨(blk_cell BK216.out 0).trans rfl, (blk_cell BK216.out 1).trans rfl, ((HB.out.cell (World.block_lt_of_cell? w _ hw232_0)).trans hw232_0), hHeld.2.2.2⟩ (fun hHeld => ?_); clear hK K; refine sqr3 ?_; refine sqr2 4 (some 34) (fun K hK => ?_); refine goes_ Try.func100 (by kernel_rfl) rfl #[.slice Ao17 t222.length co17, .int .i64 t229] (by rfl) rfl rfl zq11 ?_; (with_reducible refine (slices_Index_int64_int64.calls k1 _ _ t222 t229 t230 _ ?s1 ?s2 A25.out).mono ?_); (case s1 => exact zq32 HO_5); (case s2 => exact zq24 HO_5); rintro e w' ⟨rfl, ⟨nd, rfl⟩⟩; refine ⟨_, rfl, ?_⟩; have p29 : 0 ≤ (t230 : Int) := sqd; have q29 : (t230 : Int) < ((x6_1.length : Int) : Int) := sqd; obtain ⟨go29x, co29x, eo29, gb29, gl29, cl29, HG29⟩ := Kd.R_form HO_6.out (by omega); (first | cases eo29 | (injection eo29 with ea_ en_ ec_; (first | subst ea_ | (injection ea_ with ea_; subst ea_)); subst ec_; clear en_)); have GB29 := mA gb29; have GG29 := mA HG29; clear gb29 gl29 HG29; (first | simp only [add_plain] at hx231_0 | skip); obtain ⟨hx29_0, hf29_0⟩ := Kd.R_celln 0 HO_6.out (t230 : Int) p29 q29; replace p29 := eq_true p29; replace q29 := eq_true q29; have HP32 := Kd.R_putn HO_6.out (t230 : Int) (wrap64 ((rd x6_1 t230) + (rd l0_0 x25_1))); rw [← Ny233.out] at HP32; have HQ32 := mA HP32; clear HP32; refine hK.out _ _ ⟨(blk_cell BK216.out 0).trans rfl, (blk_cell BK216.out 1).trans rfl, ((HB.out.cell (World.block_lt_of_cell? w _ hw232_0)).trans hw232_0), hHeld.2.2.2⟩ (fun hHeld => ?_); clear hK K; refine sqr3 ?_; refine sqr0 5 (some 35) ?_; refine sqr7 6 (some 36) ?_; refine sqr0 12 (some 42) ?_; refine sqr0 13 (some 43) ?_
   refine last_ (i := 14) (N := none) #[true, true, true, true, true, true, true, true, true, true, true, true, true, true, true] rfl rfl (one_of HT_.out (by kernel_rfl)) (by decide) (fun K hK => ?_); refine skip_ (w1 := ?_) (by rfl) rfl ?_ ?_; rotate_left
   ·go_simp; rfl
   refine hK.out _ _ ?_; clear hK K; refine done_ (done_of HT_.out (by kernel_rfl)) ?_; (try go_wp2); go_roundg k1
   case measure => have := HK1.out; omega
   case rel => exact ⟨(y233), (wrap64 (x25_1 + 1)), zq3, H', ⟨zq22 HK1⟩, ⟨by (with_reducible repeat (first | apply Kd.R_alloc | apply Kd.R_drewN | apply Kd.R_drew)); exact Kd.R_mono (Kd.R_far (p := ⟨go29, (t230 : Int).toNat, none⟩) (Kd.R_mono HO_5.out (fun k_ hk => (⟨hk, fun e_ => hk (by rw [e_]; rfl)⟩ : _ ∧ k_ ≠ go29))) (fun _ hk => hk.2) (.int .i64 (wrap64 ((rd x6_1 t230) + (rd l0_0 x25_1))))) (fun _ hk => hk.1)⟩, ⟨zq2 HQ32⟩, ⟨zq64 HO_6 BK216⟩, ⟨zq65 GB29⟩⟩

/-! ### laws_r8Long: function 49 -/
def laws_r8Long.f (l0 : List Int) (l1 : List Int) : Option (Bool) := if (l0.length : Int) > 48 then (some true) else (some (decide ((l1.length : Int) > 48)))
set_option maxHeartbeats 8000000 in
set_option maxRecDepth 100000 in
theorem laws_r8Long.calls (A0 : Option Addr) (c0 : Nat) (l0 : List Int) (A1 : Option Addr) (c1 : Nat) (l1 : List Int) (r : Bool) (w : World) (hr0 : Kd.C (Kd.int .u8) w A0 l0.length l0) (hc0 : l0.length ≤ c0) (hr1 : Kd.C (Kd.int .u8) w A1 l1.length l1) (hc1 : l1.length ≤ c1) (h : laws_r8Long.f l0 l1 = some r) :
    Calls Try.prog 49 #[.slice A0 l0.length c0, .slice A1 l1.length c1] w fun e w' => e = .returned (.bool r) ∧ Drawn0 w w' := by
 have HR0 := mA hr0; have HC0 := mA hc0; clear hr0 hc0; have HR1 := mA hr1; have HC1 := mA hc1; clear hr1 hc1; have H : (if (l0.length : Int) > 48 then (some true) else (some (decide ((l1.length : Int) > 48)))) = some r := h; clear h; by_cases c3 : (l0.length : Int) > 48
 ·rw [if_pos c3] at H; have c3b0 := decide_eq_true c3; have c3b1 : decide (48 < l0.length) = true := decide_eq_true (by omega); clear c3; obtain rfl := Option.some.inj H; go_enter Try.func49, Try.ntmps49; go_wp2; go_ret; exact ⟨zq3, zq10⟩
 rw [if_neg c3] at H; have c3b0 := decide_eq_false c3; have c3b1 : decide (48 < l0.length) = false := decide_eq_false (by omega); clear c3; obtain rfl := Option.some.inj H; go_enter Try.func49, Try.ntmps49; go_wp2; go_ret; exact ⟨zq3, zq10⟩

/-- A state of type 120 at block g of W; what its slices lead to came in by w0. -/
def IsS120 (w0 W : World) (g : Nat) (f0 : List Int) (f1 : Int) (f2 : Int) : Prop := ∃ A0 c0, W.heap[g]? = some (.cells #[.slice A0 f0.length c0, .int .i64 f1, .int .u64 f2] 120 (0, 0)) ∧ w0.heap.size ≤ g ∧ Kd.C (Kd.int .u8) w0 A0 f0.length f0
theorem IsS120.grown {w0 W : World} {g : Nat} {f0 : List Int} {f1 : Int} {f2 : Int} {W1 : World} {row : Option Nat} (h : IsS120 w0 W g f0 f1 f2) (hw : W.grownBy W1 row) (hne : some g ≠ row) : IsS120 w0 W1 g f0 f1 f2 := by
 obtain ⟨A0, c0, hb, hg, hr0⟩ := h; exact ⟨A0, c0, blk_grown hb hw hne, hg, hr0⟩
theorem IsS120.own_neN {w0 W : World} {g : Nat} {f0 : List Int} {f1 : Int} {f2 : Int} {α : Type} {d : Kd α} {e : Nat} {base : Nat} {ok : Nat → Prop} {v : Value} {xs : List α} (h : IsS120 w0 W g f0 f1 f2) (ho : Kd.N d e W base ok v xs) (ht : e ≠ 120) : some g ≠ v.ownBlock := by
 obtain ⟨A0, c0, hb, hg, hr0⟩ := h; exact Kd.N_ne ho hb ht
theorem IsS120.fresh {w0 W : World} {g : Nat} {f0 : List Int} {f1 : Int} {f2 : Int} (h : IsS120 w0 W g f0 f1 f2) : ∀ k, W.heap.size ≤ k → k ≠ g := by
 obtain ⟨A0, c0, hb, hg, hr0⟩ := h; exact Kd.freshB hb
theorem IsS120.kept {w0 W : World} {g : Nat} {f0 : List Int} {f1 : Int} {f2 : Int} {W1 : World} {S : Nat → Prop} (h : IsS120 w0 W g f0 f1 f2) (hk : Kept W W1 S) (hne : ¬ S g) : IsS120 w0 W1 g f0 f1 f2 := by
 obtain ⟨A0, c0, hb, hg, hr0⟩ := h; exact ⟨A0, c0, blk_kept hb hk hne, hg, hr0⟩
theorem IsS120.below {w0 W : World} {g : Nat} {f0 : List Int} {f1 : Int} {f2 : Int} {W1 : World} (h : IsS120 w0 W g f0 f1 f2) (hw : Below W.heap.size W W1) : IsS120 w0 W1 g f0 f1 f2 := h.grown (grown_of_below hw none) (by simp)
theorem IsS120.alloc {w0 W : World} {g : Nat} {f0 : List Int} {f1 : Int} {f2 : Int} (h : IsS120 w0 W g f0 f1 f2) (o : Obj) : IsS120 w0 (W.alloc o) g f0 f1 f2 := h.below (below_alloc (Below.refl _ _) o)
theorem IsS120.drewN {w0 W : World} {g : Nat} {f0 : List Int} {f1 : Int} {f2 : Int} (h : IsS120 w0 W g f0 f1 f2) (m : Nat) : IsS120 w0 (W.drewN m) g f0 f1 f2 := h
theorem IsS120.drew {w0 W : World} {g : Nat} {f0 : List Int} {f1 : Int} {f2 : Int} (h : IsS120 w0 W g f0 f1 f2) : IsS120 w0 W.drew g f0 f1 f2 := h
theorem IsS120.at_ {w0 W : World} {g : Nat} {f0 : List Int} {f1 : Int} {f2 : Int} {w' : World} {m : Nat} (hq : W.drewN m = w') (h : IsS120 w0 W g f0 f1 f2) : IsS120 w0 w' g f0 f1 f2 := by subst hq; exact IsS120.drewN h m
theorem IsS120.apart {w0 W : World} {g : Nat} {f0 : List Int} {f1 : Int} {f2 : Int} {α : Type} {d : Kd α} {e : Nat} {base : Nat} {ok : Nat → Prop} {v : Value} {xs : List α} (h : IsS120 w0 W g f0 f1 f2) (ho : d.R e W base ok v xs) (ht : ∀ q, q ∈ e :: d.E → q ≠ 120) : d.R e W base (fun k => ok k ∧ k ≠ g) v xs := by
 obtain ⟨A0, c0, hb, hg, hr0⟩ := h; exact Kd.R_types ho hb ht
theorem IsS120.own_ne {w0 W : World} {g : Nat} {f0 : List Int} {f1 : Int} {f2 : Int} {α : Type} {d : Kd α} {e : Nat} {base : Nat} {ok : Nat → Prop} {v : Value} {xs : List α} (h : IsS120 w0 W g f0 f1 f2) (ho : d.R e W base ok v xs) (ht : e ≠ 120) : some g ≠ v.ownBlock := by
 obtain ⟨A0, c0, hb, hg, hr0⟩ := h; exact Kd.R_ne ho hb ht
theorem IsS120.apartQ {w0 W : World} {g : Nat} {f0 : List Int} {f1 : Int} {f2 : Int} {α : Type} {d : Kd α} {e : Nat} {base : Nat} {ok : Nat → Prop} {v : Value} {xs : List α} (h : IsS120 w0 W g f0 f1 f2) (ho : d.Q e W base ok v xs) (ht : ∀ q, q ∈ e :: d.E → q ≠ 120) : d.Q e W base (fun k => ok k ∧ k ≠ g) v xs := by
 obtain ⟨A0, c0, hb, hg, hr0⟩ := h; exact Kd.Q_types ho hb ht
theorem IsS120.own_neQ {w0 W : World} {g : Nat} {f0 : List Int} {f1 : Int} {f2 : Int} {α : Type} {d : Kd α} {e : Nat} {base : Nat} {ok : Nat → Prop} {v : Value} {xs : List α} (h : IsS120 w0 W g f0 f1 f2) (ho : d.Q e W base ok v xs) (ht : e ≠ 120) : some g ≠ v.ownBlock := by
 obtain ⟨A0, c0, hb, hg, hr0⟩ := h; exact Kd.Q_ne ho hb ht
theorem IsS120.apartS {w0 W : World} {g : Nat} {f0 : List Int} {f1 : Int} {f2 : Int} {α : Type} {d : Kd α} {e : Nat} {base : Nat} {ok : Nat → Prop} {v : Value} {xs : List α} (h : IsS120 w0 W g f0 f1 f2) (ho : d.S e W base ok v xs) (ht : ∀ q, q ∈ e :: d.E → q ≠ 120) : d.S e W base (fun k => ok k ∧ k ≠ g) v xs := by
 obtain ⟨A0, c0, hb, hg, hr0⟩ := h; exact Kd.S_types ho hb ht
theorem IsS120.own_neS {w0 W : World} {g : Nat} {f0 : List Int} {f1 : Int} {f2 : Int} {α : Type} {d : Kd α} {e : Nat} {base : Nat} {ok : Nat → Prop} {v : Value} {xs : List α} (h : IsS120 w0 W g f0 f1 f2) (ho : d.S e W base ok v xs) (ht : e ≠ 120) : some g ≠ v.ownBlock := by
 obtain ⟨A0, c0, hb, hg, hr0⟩ := h; exact Kd.S_ne ho hb ht
theorem IsS120.lt {w0 W : World} {g : Nat} {f0 : List Int} {f1 : Int} {f2 : Int} (h : IsS120 w0 W g f0 f1 f2) : g < W.heap.size := by
 obtain ⟨A0, c0, hb, hg, hr0⟩ := h; exact blk_lt hb
theorem IsS120.ge {w0 W : World} {g : Nat} {f0 : List Int} {f1 : Int} {f2 : Int} (h : IsS120 w0 W g f0 f1 f2) : w0.heap.size ≤ g := by
 obtain ⟨A0, c0, hb, hg, hr0⟩ := h; exact hg
theorem IsS120.ne_blk {w0 W : World} {g : Nat} {f0 : List Int} {f1 : Int} {f2 : Int} {a : Nat} {cs : Array Value} {t : TypeId} {fr : Nat × Nat} (h : IsS120 w0 W g f0 f1 f2) (hb2 : W.heap[a]? = some (.cells cs t fr)) (ht : t ≠ 120) : g ≠ a := by
 obtain ⟨A0, c0, hb, hg, hr0⟩ := h; rintro rfl; rw [hb] at hb2
 injection hb2 with hb2
 injection hb2 with _ ht2
 exact ht ht2.symm
theorem IsS120.far {w0 W : World} {g : Nat} {f0 : List Int} {f1 : Int} {f2 : Int} {p : Addr} (h : IsS120 w0 W g f0 f1 f2) (hne : g ≠ p.block) (u : Value) : IsS120 w0 (W.setCell p u) g f0 f1 f2 := by
 obtain ⟨A0, c0, hb, hg, hr0⟩ := h; exact ⟨A0, c0, blk_far hb hne u, hg, hr0⟩
theorem cellS120_0 {W : World} {g : Nat} {A0 : Option Addr} {c0 : Nat} {f0 : List Int} {f1 : Int} {f2 : Int} (h : W.heap[g]? = some (.cells #[.slice A0 f0.length c0, .int .i64 f1, .int .u64 f2] 120 (0, 0))) : W.cell? ⟨g, 0, none⟩ = some (.slice A0 f0.length c0) := (blk_cell h 0).trans rfl
theorem cellS120_1 {W : World} {g : Nat} {A0 : Option Addr} {c0 : Nat} {f0 : List Int} {f1 : Int} {f2 : Int} (h : W.heap[g]? = some (.cells #[.slice A0 f0.length c0, .int .i64 f1, .int .u64 f2] 120 (0, 0))) : W.cell? ⟨g, 1, none⟩ = some (.int .i64 f1) := (blk_cell h 1).trans rfl
theorem IsS120.set_1 {w0 W : World} {g : Nat} {f0 : List Int} {f1 : Int} {f2 : Int} (h : IsS120 w0 W g f0 f1 f2) (x : Int) : IsS120 w0 (W.setCell ⟨g, 1, none⟩ (.int .i64 x)) g f0 x f2 := by
 obtain ⟨A0, c0, hb, hg, hr0⟩ := h; exact ⟨A0, c0, by simpa using blk_set hb 1 (.int .i64 x), hg, hr0⟩
theorem cellS120_2 {W : World} {g : Nat} {A0 : Option Addr} {c0 : Nat} {f0 : List Int} {f1 : Int} {f2 : Int} (h : W.heap[g]? = some (.cells #[.slice A0 f0.length c0, .int .i64 f1, .int .u64 f2] 120 (0, 0))) : W.cell? ⟨g, 2, none⟩ = some (.int .u64 f2) := (blk_cell h 2).trans rfl
theorem IsS120.set_2 {w0 W : World} {g : Nat} {f0 : List Int} {f1 : Int} {f2 : Int} (h : IsS120 w0 W g f0 f1 f2) (x : Int) : IsS120 w0 (W.setCell ⟨g, 2, none⟩ (.int .u64 x)) g f0 f1 x := by
 obtain ⟨A0, c0, hb, hg, hr0⟩ := h; exact ⟨A0, c0, by simpa using blk_set hb 2 (.int .u64 x), hg, hr0⟩
theorem IsS120.new (w0 W : World) (A0 : Option Addr) (c0 : Nat) (f0 : List Int) (f1 : Int) (f2 : Int) (hB : Below w0.heap.size w0 W) (hr0 : Kd.C (Kd.int .u8) w0 A0 f0.length f0) : IsS120 w0 (W.alloc (.cells #[.slice A0 f0.length c0, .int .i64 f1, .int .u64 f2] 120)) W.heap.size f0 f1 f2 := ⟨A0, c0, by simpa using heap_alloc_new W _, hB.size, hr0⟩

/-! ### spec_l00From: function 102 -/
def spec_l00From.f (l0 : List Int) : Option (List Int × Int × Int) := some (l0, 0, 0)
set_option maxHeartbeats 8000000 in
set_option maxRecDepth 100000 in
theorem spec_l00From.calls (A0 : Option Addr) (c0 : Nat) (l0 : List Int) (r1 : List Int) (r2 : Int) (r3 : Int) (w0 w : World) (hB : Below w0.heap.size w0 w) (hr0 : Kd.C (Kd.int .u8) w0 A0 l0.length l0) (hc0 : l0.length ≤ c0) (h : spec_l00From.f l0 = some (r1, r2, r3)) :
    Calls Try.prog 102 #[.slice A0 l0.length c0] w fun e w' => ∃ g_ : Nat, e = .returned (.pointer (some ⟨g_, 0, none⟩)) ∧ IsS120 w0 w' g_ r1 r2 r3 ∧ Below w0.heap.size w0 w' ∧ Below w.heap.size w w' := by
 have hu120 := Try.underlying120; have HR0 := mA hr0; have HC0 := mA hc0; clear hr0 hc0; have HBW := mA (Below.refl w.heap.size w); have HW0 := mA hB.size; have HB := mA hB; clear hB; have H : (some (l0, 0, 0)) = some (r1, r2, r3) := h; clear h; simp only [Option.some.injEq, Prod.mk.injEq] at H; obtain ⟨rfl, rfl, rfl⟩ := H; go_enter Try.func102, Try.ntmps102; go_wp2_with (first | (refine sqX 5 #[.slice A0 l0.length c0, .int .i64 0, .int .u64 0] 120 ?_; intro gb234 hg w2 hbox hb; replace HB := mA (below_step zq6 hb); have BK234 := mA (hbox); have GW234 := mA ((by rw [hg]; exact (below_size (by repeat (first | (with_reducible first | exact HBW.out | apply below_alloc | apply pw_below_drewN | apply below_drew1) | exact HBW.out))) : w.heap.size ≤ gb234)); have GE234 := mA ((Nat.le_trans HW0.out (by rw [hg]; exact (below_size (by repeat (first | (with_reducible first | exact HBW.out | apply below_alloc | apply pw_below_drewN | apply below_drew1) | exact HBW.out))) : w.heap.size ≤ gb234) : w0.heap.size ≤ gb234)); replace HBW := mA (below_step HBW.out hb); clear hb hbox hg)); go_ret; exact ⟨_, rfl, (show IsS120 w0 _ gb234 l0 0 0 from ⟨_, _, zq0 BK234, GE234.out, HR0.out⟩), zq1, by repeat (first | (with_reducible first | exact HBW.out | apply below_alloc | apply pw_below_drewN | apply below_drew1 | refine below_set ?_ GW234.out) | exact HBW.out)⟩

/-! ### spec_l00Own: function 67 -/
def spec_l00Own.f (l0 : List Int) : Option (List Int) := (some (([] : List Int) : List Int)).bind fun y235 => (if y235.length + l0.length < 17592186044416 then (some (y235 ++ l0)) else (none))
set_option maxHeartbeats 8000000 in
set_option maxRecDepth 100000 in
theorem spec_l00Own.calls (A0 : Option Addr) (c0 : Nat) (l0 : List Int) (r : List Int) (w : World) (hr0 : Kd.C (Kd.int .i64) w A0 l0.length l0) (hc0 : l0.length ≤ c0) (h : spec_l00Own.f l0 = some r) :
    Calls Try.prog 67 #[.slice A0 l0.length c0] w fun e w' => ∃ v0_ : Value, e = .returned (v0_) ∧ Kd.R (Kd.int .i64) 2 w' w.heap.size (fun _ => True) v0_ r ∧ Below w.heap.size w w' := by
 have HR0 := mA hr0; have HC0 := mA hc0; clear hr0 hc0; have HB := mA (Below.refl w.heap.size w); have H : ((some (([] : List Int) : List Int)).bind fun y235 => (if y235.length + l0.length < 17592186044416 then (some (y235 ++ l0)) else (none))) = some r := h; clear h; obtain ⟨y235, hy235⟩ : ∃ y_ : List Int, y_ = (([] : List Int)) := ⟨_, rfl⟩
 replace H : (if y235.length + l0.length < 17592186044416 then (some (y235 ++ l0)) else (none)) = some r := by first | (rw [hy235]; with_reducible exact H) | (have H2_ := (Option.bind_some _ _).symm.trans H; rw [hy235]; with_reducible exact H2_) | (have H2_ := (Option.bind_some _ _).symm.trans H; with_reducible exact H2_) | with_reducible exact H | (rw [hy235]; exact H) | exact H
 have Ny235 := mA hy235; clear hy235; obtain ⟨c2, H⟩ := sqI H; have LMc2 := mA c2; clear c2; obtain ⟨y238, hy238⟩ : ∃ y_ : List Int, y_ = (y235 ++ l0) := ⟨_, rfl⟩
 replace H : (some y238) = some r := by first | (rw [hy238]; with_reducible exact H) | (have H2_ := (Option.bind_some _ _).symm.trans H; rw [hy238]; with_reducible exact H2_) | (have H2_ := (Option.bind_some _ _).symm.trans H; with_reducible exact H2_) | with_reducible exact H | (rw [hy238]; exact H) | exact H
 have Ny238 := mA hy238; clear hy238; obtain rfl := Option.some.inj H; go_enter Try.func67, Try.ntmps67; go_wp2_with (first | ((with_reducible refine gate_dst (N := 3) rfl ?_); refine Kd.R_lit (Kd.int .i64) _ 2 ?hg (N := 3) ?hd (xs := ([] : List Int)) (inner := []) (ok := fun _ => True) (okp := fun _ => True) ?hr ?hp (fun _ hk => hk) trivial (Below.refl _ _) (Nat.le_refl _) (by simp) ?_; (case hd => rfl); (case hg => rfl); (case hr => exact zq5); (case hp => exact (Reps.none _ _)); intro v236 w3 ho4 hb hg_ hnew_; clear hg_ hnew_; (first | rw [← Ny235.out] at ho4 | (simp only [Int.reduceToNat] at ho4; rw [← Ny235.out] at ho4)); have HO237 := mA (Kd.R_lower ho4 (below_size zq6)); replace HB := mA (below_step zq6 hb); clear hb ho4) | ((with_reducible refine gate_builtin (b := .append) (xs := #[.tmp 3, .tmp 4]) rfl ?_); at_builtin; refine Kd.R_append_rows (Kd.int .i64) (w0 := w) w.heap.size rfl (.tmp 3) (.tmp 4) 22 2 (.int .i64 0) 8 rfl Try.underlying22 info2 rfl (by decide) (by omega) v236 y235 l0 _ _ _ (fun _ => True) (fun _ => False) rfl rfl ?aO ?aR (fun _ _ h => h) (fun _ h => h.elim) ?aF ?aB ?aS ?aL ?_; (case aR => exact zq8 HR0); (case aB => exact zq78); (case aF => exact (fun _ _ => trivial)); (case aO => exact zq45 HO237); (case aS => exact zq79); (case aL => exact zq22 LMc2); intro v239 w5 ho hb hg hat; rw [← Ny238.out] at ho; replace HB := mA (hb); have HO240 := mA (ho); clear HO237 ho hb hg hat)); go_ret; exact ⟨_, zq7, zq2 HO240, zq6⟩

end Go.Proofs.Ytlhpejabdmejbaa.PFnMeans
