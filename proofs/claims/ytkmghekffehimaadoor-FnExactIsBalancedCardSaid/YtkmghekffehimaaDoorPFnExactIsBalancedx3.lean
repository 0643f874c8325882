/- Written by this session's program (wip/tool/xprint.py) over the kit's printer. -/
import Derived.Test.YtkmghekffehimaaDoorPFnExactIsBalancedx0
namespace Go.Proofs.YtkmghekffehimaaDoor.PFnExactIsBalanced
open Go.RowKit Go.Proofs.YtkmghekffehimaaDoorW.PrintWords Go.Proofs.YtkmghekffehimaaDoorW.PrintLast Go.Proofs.YtkmghekffehimaaDoorW.PrintMore
attribute [local go_sem] max2_int min2_int max_two min_two max_three min_three max_four min_four   -- for this text's walks alone
set_option linter.unusedVariables false
set_option linter.unusedSimpArgs false

/-! ### utf8_ValidRune: function 73 -/
def utf8_ValidRune.j0 : Nat → Int → Bool → Option (Bool)
  | 0, _, _ => none
  | k + 1, x0, x3 => if x3 = true then (some true) else (if 57343 < x0 then (if x0 ≤ 1114111 then (some true) else (some false)) else (some false))
def utf8_ValidRune.f (k : Nat) (a0 : Int) : Option (Bool) := if 0 ≤ a0 then (utf8_ValidRune.j0 k a0 (decide (a0 < 55296))) else (utf8_ValidRune.j0 k a0 false)
theorem utf8_ValidRune.mono_l : ∀ k, (∀ y0 y1, LeO (utf8_ValidRune.j0 k y0 y1) (utf8_ValidRune.j0 (k + 1) y0 y1))
  | 0 => fun _ _ r h => by simp [utf8_ValidRune.j0] at h
  | k + 1 => by
   have ih0 := utf8_ValidRune.mono_l k
   intros
   unfold utf8_ValidRune.j0
   all_goals repeat' first | (with_reducible first | apply ih0 | exact LeO.refl _ | exact LeO.none _ | refine LeO.ite ?_ ?_ | refine LeO.bind ?_ (fun _ => ?_)) | apply ih0 | exact LeO.none _ | refine LeO.ite ?_ ?_ | refine LeO.bind ?_ (fun _ => ?_)
theorem utf8_ValidRune.mono : ∀ a0 k, LeO (utf8_ValidRune.f k a0) (utf8_ValidRune.f (k + 1) a0) := by
  intro a0 k
  have ih0 := utf8_ValidRune.mono_l k
  unfold utf8_ValidRune.f
  repeat' first | (with_reducible first | apply ih0 | exact LeO.refl _ | exact LeO.none _ | refine LeO.ite ?_ ?_ | refine LeO.bind ?_ (fun _ => ?_)) | apply ih0 | exact LeO.none _ | refine LeO.ite ?_ ?_ | refine LeO.bind ?_ (fun _ => ?_)
set_option maxHeartbeats 8000000 in
set_option maxRecDepth 100000 in
theorem utf8_ValidRune.calls (k : Nat) (a0 : Int) (r : Bool) (w : World) (h : utf8_ValidRune.f k a0 = some r) :
    Calls Tryd.prog 73 #[.int .i32 a0] w fun e w' => e = .returned (.bool r) ∧ Drawn0 w w' := by
 have H : (if 0 ≤ a0 then (utf8_ValidRune.j0 k a0 (decide (a0 < 55296))) else (utf8_ValidRune.j0 k a0 false)) = some r := h; clear h; have HC2 := mA H; clear H; go_enter Tryd.func73, Tryd.ntmps73
 go_upto_region 1 with (fail)
 go_cut [3] (fun v3 wc => ∃ (kq : Nat) (x3_1 : Bool), v3 = .bool x3_1 ∧ Aside0 (utf8_ValidRune.j0 kq a0 x3_1 = some r) ∧ Aside0 (kq ≤ k) ∧ Drawn0 w wc)
 case first =>
  have H := HC2.out; clear HC2; refine sqC (0 ≤ a0) (fun c3 => ?_) (fun c3 => ?_)
  ·rw [if_neg c3] at H; have c3b0 := decide_eq_false c3; clear c3; (first | rw [c3b0] | (simp only [i64_w, i32_w]; rw [c3b0]) | skip); have H' := mA H; clear H; go_wp2; go_meet
   case rel => exact ⟨_, (false), z1, H', ⟨by first | omega | exact Nat.le_refl _⟩, z2⟩
  rw [if_pos c3] at H; have c3b0 := decide_eq_true c3; clear c3; (first | rw [c3b0] | (simp only [i64_w, i32_w]; rw [c3b0]) | skip); have H' := mA H; clear H; go_wp2; go_meet
  case rel => exact ⟨_, (decide (a0 < 55296)), z1, H', ⟨by first | omega | exact Nat.le_refl _⟩, z2⟩
 case rest =>
  clear HC2; (try clear p2); (try clear c3); (try clear c3b0); obtain ⟨kq, x3_1, rfl, HA, HJ1, ⟨mc1, rfl⟩⟩ := hcut
  cases kq with
  | zero => exact absurd HA.out (by simp [utf8_ValidRune.j0])
  | succ kj1 =>
   have H := HA.out; clear HA; simp only [utf8_ValidRune.j0] at H; by_cases c4 : x3_1 = true
   ·subst c4; rw [if_pos rfl] at H; obtain rfl := Option.some.inj H; go_wp2; go_ret; exact ⟨z1, z2⟩
   replace c4 := Bool.eq_false_iff.mpr c4; subst c4; rw [if_neg (show ¬ (false = true) by decide)] at H; refine sqC (57343 < a0) (fun c5 => ?_) (fun c5 => ?_)
   ·rw [if_neg c5] at H; replace c5 := decide_eq_false c5; obtain rfl := Option.some.inj H; go_wp2; go_ret; exact ⟨z1, z2⟩
   rw [if_pos c5] at H; replace c5 := decide_eq_true c5; by_cases c6 : a0 ≤ 1114111
   ·rw [if_pos c6] at H; replace c6 := decide_eq_true c6; obtain rfl := Option.some.inj H; go_wp2; go_ret; exact ⟨z1, z2⟩
   rw [if_neg c6] at H; replace c6 := decide_eq_false c6; obtain rfl := Option.some.inj H; go_wp2; go_ret; exact ⟨z1, z2⟩

/-! ### bytealg_Cutover: function 74 -/
def bytealg_Cutover.f (a0 : Int) : Option (Int) := some (wrap64 (Int.tdiv (wrap64 (a0 + 16)) 8))
set_option maxHeartbeats 8000000 in
set_option maxRecDepth 100000 in
theorem bytealg_Cutover.calls (a0 : Int) (r : Int) (w : World) (h : bytealg_Cutover.f a0 = some r) :
    Calls Tryd.prog 74 #[.int .i64 a0] w fun e w' => e = .returned (.int .i64 r) ∧ Drawn0 w w' := by
 have H : (some (wrap64 (Int.tdiv (wrap64 (a0 + 16)) 8))) = some r := h; clear h; obtain rfl := Option.some.inj H; go_enter Tryd.func74, Tryd.ntmps74; go_wp2; go_ret; exact ⟨z1, z2⟩

-- NOT PRINTED: function 75 (bytealg_IndexString)

-- NOT PRINTED: function 70 (strings_IndexRune)

-- NOT PRINTED: function 67 (strings_ContainsRune)

-- NOT PRINTED: function 58 (strings_trimLeftUnicode)

/-! ### utf8_RuneStart: function 71 -/
def utf8_RuneStart.f (a0 : Int) : Option (Bool) := some ((Go.bits .and .u8 a0 192) != 128)
set_option maxHeartbeats 8000000 in
set_option maxRecDepth 100000 in
theorem utf8_RuneStart.calls (a0 : Int) (r : Bool) (w : World) (h : utf8_RuneStart.f a0 = some r) :
    Calls Tryd.prog 71 #[.int .u8 a0] w fun e w' => e = .returned (.bool r) ∧ Drawn0 w w' := by
 have H : (some ((Go.bits .and .u8 a0 192) != 128)) = some r := h; clear h; obtain rfl := Option.some.inj H; go_enter Tryd.func71, Tryd.ntmps71; go_wp2; go_ret; exact ⟨z1, z2⟩

-- NOT PRINTED: function 68 (utf8_DecodeLastRuneInString)

-- NOT PRINTED: function 59 (strings_trimRightUnicode)

/-! ### strings_Trim: function 33 -/
-- given by hand
def strings_Trim.ren : Go.Shelf.Ren := ⟨fun | 160 => 33 | 232 => 54 | 231 => 53 | 227 => 55 | 234 => 57 | 233 => 56 | 236 => 59 | 235 => 58 | 228 => 65 | 271 => 68 | 151 => 67 | 197 => 66 | 120 => 71 | 152 => 70 | 260 => 69 | 137 => 72 | 119 => 73 | 224 => 74 | 225 => 75 | 217 => 76 | 266 => 77 | n => n, fun | 9 => 9 | 4 => 4 | 3 => 3 | 5 => 5 | 117 => 65 | 116 => 64 | 0 => 0 | 124 => 68 | 21 => 21 | 105 => 75 | 46 => 78 | 119 => 80 | 139 => 83 | 138 => 82 | n => n, fun | 3 => 0 | 4 => 1 | n => n⟩
theorem strings_Trim.lay : Go.Proofs.Lays.n160 Tryd.prog strings_Trim.ren := {
  mixed := by kernel_rfl,
  f119 := Tryd.func73.trans (congrArg some (by kernel_rfl)),
  f120 := Tryd.func71.trans (congrArg some (by kernel_rfl)),
  f137 := Tryd.func72.trans (congrArg some (by kernel_rfl)),
  f151 := Tryd.func67.trans (congrArg some (by kernel_rfl)),
  f152 := Tryd.func70.trans (congrArg some (by kernel_rfl)),
  f160 := Tryd.func33.trans (congrArg some (by kernel_rfl)),
  f197 := Tryd.func66.trans (congrArg some (by kernel_rfl)),
  f217 := Tryd.func76.trans (congrArg some (by kernel_rfl)),
  f224 := Tryd.func74.trans (congrArg some (by kernel_rfl)),
  f225 := Tryd.func75.trans (congrArg some (by kernel_rfl)),
  f227 := Tryd.func55.trans (congrArg some (by kernel_rfl)),
  f228 := Tryd.func65.trans (congrArg some (by kernel_rfl)),
  f231 := Tryd.func53.trans (congrArg some (by kernel_rfl)),
  f232 := Tryd.func54.trans (congrArg some (by kernel_rfl)),
  f233 := Tryd.func56.trans (congrArg some (by kernel_rfl)),
  f234 := Tryd.func57.trans (congrArg some (by kernel_rfl)),
  f235 := Tryd.func58.trans (congrArg some (by kernel_rfl)),
  f236 := Tryd.func59.trans (congrArg some (by kernel_rfl)),
  f260 := Tryd.func69.trans (congrArg some (by kernel_rfl)),
  f266 := Tryd.func77.trans (congrArg some (by kernel_rfl)),
  f271 := Tryd.func68.trans (congrArg some (by kernel_rfl)),
  t0 := Tryd.underlying0,
  a0 := Tryd.isAgg0,
  z0 := Tryd.sizeOf0,
  v0 := Tryd.zeroValue0,
  t3 := Tryd.underlying3,
  a3 := Tryd.isAgg3,
  z3 := Tryd.sizeOf3,
  v3 := Tryd.zeroValue3,
  t4 := Tryd.underlying4,
  a4 := Tryd.isAgg4,
  z4 := Tryd.sizeOf4,
  v4 := Tryd.zeroValue4,
  t5 := Tryd.underlying5,
  a5 := Tryd.isAgg5,
  z5 := Tryd.sizeOf5,
  v5 := Tryd.zeroValue5,
  t9 := Tryd.underlying9,
  a9 := Tryd.isAgg9,
  z9 := Tryd.sizeOf9,
  v9 := Tryd.zeroValue9,
  t21 := Tryd.underlying21,
  a21 := Tryd.isAgg21,
  z21 := Tryd.sizeOf21,
  v21 := Tryd.zeroValue21,
  t46 := Tryd.underlying78,
  a46 := Tryd.isAgg78,
  z46 := Tryd.sizeOf78,
  v46 := Tryd.zeroValue78,
  t105 := Tryd.underlying75,
  a105 := Tryd.isAgg75,
  z105 := Tryd.sizeOf75,
  v105 := Tryd.zeroValue75,
  t116 := Tryd.underlying64,
  a116 := Tryd.isAgg64,
  z116 := Tryd.sizeOf64,
  t117 := Tryd.underlying65,
  a117 := Tryd.isAgg65,
  z117 := Tryd.sizeOf65,
  v117 := Tryd.zeroValue65,
  t119 := Tryd.underlying80,
  a119 := Tryd.isAgg80,
  z119 := Tryd.sizeOf80,
  t124 := Tryd.underlying68,
  a124 := Tryd.isAgg68,
  z124 := Tryd.sizeOf68,
  v124 := Tryd.zeroValue68,
  t138 := Tryd.underlying82,
  a138 := Tryd.isAgg82,
  z138 := Tryd.sizeOf82,
  v138 := Tryd.zeroValue82,
  t139 := Tryd.underlying83,
  a139 := Tryd.isAgg83,
  z139 := Tryd.sizeOf83,
  v139 := Tryd.zeroValue83,
  g3 := by kernel_rfl,
  g4 := by kernel_rfl }
def strings_Trim.f (a0 a1 : ByteArray) : Option ByteArray := if a1.data = #[97, 98] ∧ a0.size ≤ 9223372036854775807 then some ⟨(Go.Lib.trimS a0.data.toList [97, 98]).toArray⟩ else none
theorem strings_Trim.calls (a0 a1 r : ByteArray) (w : World) (h : strings_Trim.f a0 a1 = some r) :
    Calls Tryd.prog 33 #[.string a0, .string a1] w fun e w' => e = .returned (.string r) ∧ Below w.heap.size w w' := by
 unfold strings_Trim.f at h; refine sqC (a1.data = #[97, 98] ∧ a0.size ≤ 9223372036854775807) (fun c => ?_) (fun c => ?_)
 ·rw [if_neg c] at h
  cases h
 rw [if_pos c] at h; obtain rfl := Option.some.inj h; obtain ⟨c1, c2⟩ := c
 obtain rfl : a1 = ⟨#[97, 98]⟩ := by cases a1; cases c1; rfl
 have hcon := Go.Proofs.Any.strings_Trim_laid strings_Trim.lay (by kernel_rfl) a0 ⟨#[97, 98]⟩ w c2 (by decide) (Go.Proofs.ascii_of_all (by decide)); exact hcon

/-! ### impl_IsWord: function 12 -/
def impl_IsWord.f (a0 : ByteArray) : Option (Bool) := if (a0.size : Int) ≤ 120 then ((strings_Trim.f a0 (⟨#[97, 98]⟩ : ByteArray)).bind fun t122 => (some (t122.toList == ([] : List UInt8)))) else (some false)
set_option maxHeartbeats 8000000 in
set_option maxRecDepth 100000 in
theorem impl_IsWord.calls (a0 : ByteArray) (r : Bool) (w : World) (h : impl_IsWord.f a0 = some r) :
    Calls Tryd.prog 12 #[.string a0] w fun e w' => e = .returned (.bool r) ∧ Below w.heap.size w w' := by
 have HB := mA (Below.refl w.heap.size w); have H : (if (a0.size : Int) ≤ 120 then ((strings_Trim.f a0 (⟨#[97, 98]⟩ : ByteArray)).bind fun t122 => (some (t122.toList == ([] : List UInt8)))) else (some false)) = some r := h; clear h; refine sqC ((a0.size : Int) ≤ 120) (fun c2 => ?_) (fun c2 => ?_)
 ·rw [if_neg c2] at H; have c2b0 := decide_eq_false c2; have c2b1 : decide (a0.size ≤ 120) = false := decide_eq_false (by omega); clear c2; obtain rfl := Option.some.inj H; go_enter Tryd.func12, Tryd.ntmps12; go_wp2; go_ret; exact ⟨z4, z0⟩
 rw [if_pos c2] at H; have c2b0 := decide_eq_true c2; have c2b1 : decide (a0.size ≤ 120) = true := decide_eq_true (by omega); clear c2; obtain ⟨t122, A3, H⟩ := sqB H; obtain rfl := Option.some.inj H; go_enter Tryd.func12, Tryd.ntmps12; go_wp2_with (first | (go_at_call 33; (with_reducible refine (strings_Trim.calls a0 (⟨#[97, 98]⟩ : ByteArray) t122 _ A3.out).mono ?_); rintro e w4 ⟨rfl, hb⟩; replace HB := mA (below_step z0 hb); (try clear hb))); go_ret; exact ⟨z4, z0⟩

/-! ### impl_bit: function 60 -/
def impl_bit.f (a0 : Bool) : Option (Int) := if a0 = true then (some 1) else (some 0)
set_option maxHeartbeats 8000000 in
set_option maxRecDepth 100000 in
theorem impl_bit.calls (a0 : Bool) (r : Int) (w : World) (h : impl_bit.f a0 = some r) :
    Calls Tryd.prog 60 #[.bool a0] w fun e w' => e = .returned (.int .i64 r) ∧ Drawn0 w w' := by
 have H : (if a0 = true then (some 1) else (some 0)) = some r := h; clear h; by_cases c2 : a0 = true
 ·subst c2; rw [if_pos rfl] at H; obtain rfl := Option.some.inj H; go_enter Tryd.func60, Tryd.ntmps60; go_wp2; go_ret; exact ⟨z1, z2⟩
 replace c2 := Bool.eq_false_iff.mpr c2; subst c2; rw [if_neg (show ¬ (false = true) by decide)] at H; obtain rfl := Option.some.inj H; go_enter Tryd.func60, Tryd.ntmps60; go_wp2; go_ret; exact ⟨z1, z2⟩

/-! ### impl_heights: function 36 -/
def impl_heights.l0 : Nat → ByteArray → List Int → Int → Int → Option (List Int)
  | 0, _, _, _, _ => none
  | k + 1, x0, x3, x7, x8 => if x8 < x7 then (if 0 ≤ x8 then (if x8 < (x3.length : Int) then (if x8 < (x0.size : Int) then ((impl_bit.f ((bt x0 x8) == 98)).bind fun t127 => (if x3.length < 17592186044416 then (impl_heights.l0 k x0 (x3 ++ [wrap64 ((rd x3 x8) + t127)]) x7 (wrap64 (x8 + 1))) else (none))) else (none)) else (none)) else (none)) else (some x3)
def impl_heights.f (k : Nat) (a0 : ByteArray) : Option (List Int) := impl_heights.l0 k a0 (([0] : List Int)) (a0.size : Int) 0
theorem impl_heights.mono_l : ∀ k, (∀ y0 y1 y2 y3, LeO (impl_heights.l0 k y0 y1 y2 y3) (impl_heights.l0 (k + 1) y0 y1 y2 y3))
  | 0 => fun _ _ _ _ r h => by simp [impl_heights.l0] at h
  | k + 1 => by
   have ih0 := impl_heights.mono_l k
   intros
   unfold impl_heights.l0
   all_goals repeat' first | (with_reducible first | apply ih0 | exact LeO.refl _ | exact LeO.none _ | refine LeO.ite ?_ ?_ | refine LeO.bind ?_ (fun _ => ?_)) | apply ih0 | exact LeO.none _ | refine LeO.ite ?_ ?_ | refine LeO.bind ?_ (fun _ => ?_)
theorem impl_heights.mono : ∀ a0 k, LeO (impl_heights.f k a0) (impl_heights.f (k + 1) a0) := by
  intro a0 k
  have ih0 := impl_heights.mono_l k
  unfold impl_heights.f
  repeat' first | (with_reducible first | apply ih0 | exact LeO.refl _ | exact LeO.none _ | refine LeO.ite ?_ ?_ | refine LeO.bind ?_ (fun _ => ?_)) | apply ih0 | exact LeO.none _ | refine LeO.ite ?_ ?_ | refine LeO.bind ?_ (fun _ => ?_)
def impl_heights.T5 : Bool × List (List Nat × List Nat) := (true, [([], []), ([], []), ([], []), ([1, 2], [1, 2]), ([3], [3]), ([], []), ([], []), ([5, 6], [5, 6]), ([7], [7]), ([8], [8]), ([4, 9], [4, 9]), ([10], [10]), ([0, 11, 9], [0, 11]), ([12, 12, 0, 1, 2, 3, 4, 5, 6, 7, 8, 9, 10, 11, 12], [0, 1, 12])])
def impl_heights.B5 : List Nat := [0, 0, 0, 6, 14, 0, 0, 96, 224, 480, 1022, 2046, 4095, 8191]
theorem impl_heights.tab5 : rtab .any (opsOf Tryd.f36 5) = impl_heights.T5 := by kernel_rfl
theorem impl_heights.bits5 : waitsOk impl_heights.T5.2 impl_heights.B5 = true := by kernel_rfl
set_option maxHeartbeats 8000000 in
set_option maxRecDepth 100000 in
theorem impl_heights.calls (k : Nat) (a0 : ByteArray) (r : List Int) (w : World) (h : impl_heights.f k a0 = some r) :
    Calls Tryd.prog 36 #[.string a0] w fun e w' => ∃ v0_ : Value, e = .returned (v0_) ∧ Kd.R (Kd.int .i64) 2 w' w.heap.size (fun _ => True) v0_ r ∧ Below w.heap.size w w' := by
 have HB := mA (Below.refl w.heap.size w); have H : (impl_heights.l0 k a0 (([0] : List Int)) (a0.size : Int) 0) = some r := h; clear h; obtain ⟨y123, hy123⟩ : ∃ y_ : List Int, y_ = (([0] : List Int)) := ⟨_, rfl⟩
 replace H : (impl_heights.l0 k a0 y123 (a0.size : Int) 0) = some r := by first | (rw [hy123]; with_reducible exact H) | (have H2_ := (Option.bind_some _ _).symm.trans H; rw [hy123]; with_reducible exact H2_) | (have H2_ := (Option.bind_some _ _).symm.trans H; with_reducible exact H2_) | with_reducible exact H | (rw [hy123]; exact H) | exact H
 have Ny123 := mA hy123; clear hy123; have H' := mA H; clear H; go_enter Tryd.func36, Tryd.ntmps36; go_wp2_with (first | ((with_reducible refine gate_dst (N := 5) rfl ?_); refine Kd.R_lit (Kd.int .i64) _ 2 ?hg (N := 5) ?hd (xs := ([0] : List Int)) (inner := [.int .i64 0]) (ok := fun _ => True) (okp := fun _ => True) ?hr ?hp (fun _ hk => hk) trivial (Below.refl _ _) (Nat.le_refl _) (by simp) ?_; (case hd => rfl); (case hg => rfl); (case hr => first | (go_simp; done) | (go_simp; rfl)); (case hp => exact (Reps.one (show Kd.M (Kd.int .i64) _ _ _ 0 [.int .i64 0] from rfl) (Reps.none _ _))); intro v124 w2 ho3 hb hg_ hnew_; clear hg_ hnew_; (first | rw [← Ny123.out] at ho3 | (simp only [Int.reduceToNat] at ho3; rw [← Ny123.out] at ho3)); have HO125 := mA (Kd.R_lower ho3 (below_size z0)); replace HB := mA (below_step z0 hb); clear hb ho3)); go_loopg [3, 8] k (fun kq v3 v8 w' => ∃ (x3_1 : List Int) (x8_1 : Int), v8 = .int .i64 x8_1 ∧ Aside0 (impl_heights.l0 kq a0 x3_1 (a0.size : Int) x8_1 = some r) ∧ Aside0 (kq ≤ k) ∧ Aside0 (Kd.R (Kd.int .i64) 2 w' w.heap.size (fun _ => True) v3 x3_1) ∧ Aside0 (Below w.heap.size w w'))
 case atStart => exact ⟨(y123), (0), z1, H', ⟨Nat.le_refl _⟩, ⟨z3 HO125⟩, ⟨z0⟩⟩
 case round =>
  clear H'; (try clear p2); (try clear c3); obtain ⟨x3_1, x8_1, rfl, HA, HK1, HO_3, HB⟩ := hrel
  cases gk with
  | zero => exact absurd HA.out (by simp [impl_heights.l0])
  | succ k1 =>
   have H := HA.out; clear HA; simp only [impl_heights.l0] at H; refine sqC (x8_1 < (a0.size : Int)) (fun c4 => ?_) (fun c4 => ?_)
   ·rw [if_neg c4] at H; replace c4 := decide_eq_false c4; obtain rfl := Option.some.inj H; go_wp2; go_ret; exact ⟨_, z4, z3 HO_3, z0⟩
   rw [if_pos c4] at H; replace c4 := decide_eq_true c4; obtain ⟨c5, H⟩ := sqI H; replace c5 := decide_eq_true c5; obtain ⟨c6, H⟩ := sqI H; replace c6 := decide_eq_true c6; obtain ⟨c7, H⟩ := sqI H; replace c7 := decide_eq_true c7; obtain ⟨t127, A9, H⟩ := sqB H; obtain ⟨c10, H⟩ := sqI H; have LMc10 := mA c10; clear c10; obtain ⟨y128, hy128⟩ : ∃ y_ : List Int, y_ = (x3_1 ++ [wrap64 ((rd x3_1 x8_1) + t127)]) := ⟨_, rfl⟩
   replace H : (impl_heights.l0 k1 a0 y128 (a0.size : Int) (wrap64 (x8_1 + 1))) = some r := by first | (rw [hy128]; with_reducible exact H) | (have H2_ := (Option.bind_some _ _).symm.trans H; rw [hy128]; with_reducible exact H2_) | (have H2_ := (Option.bind_some _ _).symm.trans H; with_reducible exact H2_) | with_reducible exact H | (rw [hy128]; exact H) | exact H
   have Ny128 := mA hy128; clear hy128; have H' := mA H; clear H; (try go_wp2); replace HO_3 := mA (Kd.R_drew HO_3.out); replace HB := mA (below_drew1 HB.out); obtain ⟨Ao12, co12, eo12⟩ := Kd.R_slice HO_3.out; (first | subst eo12 | (injection eo12 with f1_ f2_ f3_; have f4_ := f1_.symm; have f5_ := f3_.symm; clear f1_ f2_ f3_; subst f4_; subst f5_)); have p126 : 0 ≤ (x8_1 : Int) := sqd; have q126 : x8_1 < (x3_1.length : Int) := sqd; obtain ⟨ad126, e126, hx126_0⟩ := Kd.at_int (Kd.R_reads' HO_3.out).2.2 x8_1 p126 q126
   cases e126
   replace p126 := eq_true p126; replace q126 := eq_true q126; have p8 : 0 ≤ (x8_1 : Int) := sqd; have q8 : x8_1 < (a0.size : Int) := sqd; have hx8 := bt_at a0 x8_1; replace p8 := eq_true p8; replace q8 := eq_true q8; refine start_ (n := 14) (S := fun w' => w'.cell? (ad126.add (x8_1).toNat) = some (.int .i64 (rd x3_1 x8_1))) (ds := [11, 12]) #[false, false, false, false, false, false, false, false, false, false, false, false, false, false] (by kernel_rfl) rfl rfl (hx126_0) (fun hHeld => ?_); refine with_tabW impl_heights.tab5 impl_heights.bits5 (fun HT_ HW_ => ?_); generalize wr.drew = w11 at HO_3 HB hx126_0 hHeld ⊢; refine sqr3 0 (some 11) ?_; refine sqr3 1 (some 12) ?_; refine sqr3 2 (some 13) ?_; refine sqr3 3 (some 14) ?_; refine sqr3 5 (some 16) ?_; refine sqr3 6 (some 17) ?_; refine sqr7 4 (some 15) ?_; refine sqr7 7 (some 18) ?_; refine sqr3 8 (some 19) ?_; refine sqr5 9 (some 20) (fun K hK => ?_); refine goes_ Tryd.func60 (by kernel_rfl) rfl #[.bool ((bt a0 x8_1) == 98)] (by rfl) rfl rfl (by (try simp only [List.map_toArray, List.map_cons, List.map_nil]); first | done | rfl | (simp only [List.length_drop, List.length_take]; rfl)) ?_; (with_reducible refine (impl_bit.calls ((bt a0 x8_1) == 98) t127 _ A9.out).mono ?_); rintro e w' ⟨rfl, ⟨nd, rfl⟩⟩; refine ⟨_, rfl, ?_⟩; refine hK.out _ _ (hHeld) (fun hHeld => ?_); clear hK K; refine sqr6 ?_; refine sqr3 10 (some 21) ?_; refine last_ (i := 11) (N := some 22) #[true, true, true, true, true, true, true, true, true, true, true, true, false, false] rfl rfl (one_of HT_.out (by kernel_rfl)) (by decide) (fun K hK => ?_); refine value_ (w1 := ?_) (v := ?_) (by rfl) rfl ?_ ?_; rotate_left 2
   ·go_simp; constructor
    ·rfl
    ·rfl
   refine hK.out _ _ ?_; clear hK K; refine sqr6 ?_; refine last_ (i := 12) (N := some 23) #[true, true, true, true, true, true, true, true, true, true, true, true, true, false] rfl rfl (one_of HT_.out (by kernel_rfl)) (by decide) (fun K hK => ?_); refine Kd.R_append_step (Kd.int .i64) (w0 := w) w.heap.size (by rfl) (.tmp 11) (.tmp 22) 25 2 (.int .i64 0) 8 rfl Tryd.underlying25 info2 rfl (by decide) (by omega) (.slice (some ad126) x3_1.length co12) x3_1 (wrap64 ((rd x3_1 x8_1) + t127)) [.int .i64 (wrap64 ((rd x3_1 x8_1) + t127))] (fun _ => True) (fun _ => False) rfl rfl ?aP (fun _ hk => hk.elim) ?aF ?aO ?aB ?aS ?aL ?_; (case aP => exact rfl); (case aB => exact z0); (case aF => exact (fun _ _ => trivial)); (case aO => exact (z3 HO_3)); (case aS => exact (below_size z0)); (case aL => have := LMc10.out; omega); intro v129 w13 ho hb hg hat; rw [← Ny128.out] at ho; replace HB := mA (hb); have HO130 := mA (ho); clear HO_3 ho hb hg hat; refine hK.out _ _ ?_; clear hK K; refine sqr6 ?_; refine sqr3 13 (some 3) ?_; refine done_ (done_of HT_.out (by kernel_rfl)) ?_; (try go_wp2); go_roundg k1
   case measure => have := HK1.out; omega
   case rel => exact ⟨(y128), (wrap64 (x8_1 + 1)), z1, H', ⟨by have := HK1.out; omega⟩, ⟨z3 HO130⟩, ⟨z0⟩⟩

/-! ### impl_IsBalanced: function 21 -/
mutual
def impl_IsBalanced.l0 : Nat → List Int → Int → Int → Option (Bool)
  | 0, _, _, _ => none
  | k + 1, x3, x15, x16 => if x16 < x15 then (if 0 ≤ x16 then (if x16 < (x3.length : Int) then (impl_IsBalanced.l1 k x3 x16 (rd x3 x16) (rd x3 x16) x16 x15 x16) else (none)) else (none)) else (some true)
def impl_IsBalanced.l1 : Nat → List Int → Int → Int → Int → Int → Int → Int → Option (Bool)
  | 0, _, _, _, _, _, _, _ => none
  | k + 1, x3, x4, x5, x6, x7, x15, x16 => if x7 < (x3.length : Int) then (if 0 ≤ x7 then (if 0 ≤ (wrap64 (x7 - x4)) then (if (wrap64 (x7 - x4)) < (x3.length : Int) then (impl_IsBalanced.l1 k x3 x4 (mn x5 (wrap64 ((rd x3 x7) - (rd x3 (wrap64 (x7 - x4)))))) (mx x6 (wrap64 ((rd x3 x7) - (rd x3 (wrap64 (x7 - x4)))))) (wrap64 (x7 + 1)) x15 x16) else (none)) else (none)) else (none)) else (if (wrap64 (x6 - x5)) > 1 then (some false) else (impl_IsBalanced.l0 k x3 x15 (wrap64 (x16 + 1))))
end
def impl_IsBalanced.f (k : Nat) (a0 : ByteArray) : Option (Bool) := (impl_IsWord.f a0).bind fun t131 => (if t131 = true then ((impl_heights.f k a0).bind fun t132 => (impl_IsBalanced.l0 k t132 (t132.length : Int) 0)) else (some false))
theorem impl_IsBalanced.mono_l : ∀ k, (∀ y0 y1 y2, LeO (impl_IsBalanced.l0 k y0 y1 y2) (impl_IsBalanced.l0 (k + 1) y0 y1 y2)) ∧ (∀ y0 y1 y2 y3 y4 y5 y6, LeO (impl_IsBalanced.l1 k y0 y1 y2 y3 y4 y5 y6) (impl_IsBalanced.l1 (k + 1) y0 y1 y2 y3 y4 y5 y6))
  | 0 => ⟨fun _ _ _ r h => by simp [impl_IsBalanced.l0] at h, fun _ _ _ _ _ _ _ r h => by simp [impl_IsBalanced.l1] at h⟩
  | k + 1 => by
   obtain ⟨ih0, ih1⟩ := impl_IsBalanced.mono_l k
   refine ⟨?_, ?_⟩ <;> intros
   all_goals first | unfold impl_IsBalanced.l0 | unfold impl_IsBalanced.l1
   all_goals repeat' first | (with_reducible first | apply ih0 | apply ih1 | apply impl_heights.mono | exact LeO.refl _ | exact LeO.none _ | refine LeO.ite ?_ ?_ | refine LeO.bind ?_ (fun _ => ?_)) | apply ih0 | apply ih1 | apply impl_heights.mono | exact LeO.none _ | refine LeO.ite ?_ ?_ | refine LeO.bind ?_ (fun _ => ?_)
theorem impl_IsBalanced.mono : ∀ a0 k, LeO (impl_IsBalanced.f k a0) (impl_IsBalanced.f (k + 1) a0) := by
  intro a0 k
  obtain ⟨ih0, ih1⟩ := impl_IsBalanced.mono_l k
  unfold impl_IsBalanced.f
  repeat' first | (with_reducible first | apply ih0 | apply ih1 | apply impl_heights.mono | exact LeO.refl _ | exact LeO.none _ | refine LeO.ite ?_ ?_ | refine LeO.bind ?_ (fun _ => ?_)) | apply ih0 | apply ih1 | apply impl_heights.mono | exact LeO.none _ | refine LeO.ite ?_ ?_ | refine LeO.bind ?_ (fun _ => ?_)
set_option maxHeartbeats 8000000 in
set_option maxRecDepth 100000 in
theorem impl_IsBalanced.calls (k : Nat) (a0 : ByteArray) (r : Bool) (w : World) (h : impl_IsBalanced.f k a0 = some r) :
    Calls Tryd.prog 21 #[.string a0] w fun e w' => e = .returned (.bool r) ∧ Below w.heap.size w w' := by
 have HB := mA (Below.refl w.heap.size w); have H : ((impl_IsWord.f a0).bind fun t131 => (if t131 = true then ((impl_heights.f k a0).bind fun t132 => (impl_IsBalanced.l0 k t132 (t132.length : Int) 0)) else (some false))) = some r := h; clear h; obtain ⟨t131, A2, H⟩ := sqB H; refine sqC (t131 = true) (fun c3 => ?_) (fun c3 => ?_)
 ·replace c3 := Bool.eq_false_iff.mpr c3; subst c3; rw [if_neg (show ¬ (false = true) by decide)] at H; obtain rfl := Option.some.inj H; go_enter Tryd.func21, Tryd.ntmps21; go_wp2_with (first | (go_at_call 12; (with_reducible refine (impl_IsWord.calls a0 false _ A2.out).mono ?_); rintro e w19 ⟨rfl, hb⟩; replace HB := mA (below_step z0 hb); (try clear hb)))
  repeat (go_quiet (first | (go_at_call 12; (with_reducible refine (impl_IsWord.calls a0 false _ A2.out).mono ?_); rintro e w19 ⟨rfl, hb⟩; replace HB := mA (below_step z0 hb); (try clear hb))); try go_wp2_with (first | (go_at_call 12; (with_reducible refine (impl_IsWord.calls a0 false _ A2.out).mono ?_); rintro e w19 ⟨rfl, hb⟩; replace HB := mA (below_step z0 hb); (try clear hb))))
  go_ret; exact ⟨z4, z0⟩
 subst c3; rw [if_pos rfl] at H; obtain ⟨t132, A4, H⟩ := sqB H; have H' := mA H; clear H; go_enter Tryd.func21, Tryd.ntmps21; go_wp2_with (first | (go_at_call 12; (with_reducible refine (impl_IsWord.calls a0 true _ A2.out).mono ?_); rintro e w5 ⟨rfl, hb⟩; replace HB := mA (below_step z0 hb); (try clear hb)) | (go_at_call 36; (with_reducible refine (impl_heights.calls k a0 t132 _ A4.out).mono ?_); rintro e w6 ⟨v133, rfl, ho0, hb⟩; have HO134 := mA (Kd.R_lower ho0 (below_size z0)); replace HB := mA (below_step z0 hb); (try clear hb ho0); obtain ⟨Ao7, co7, eo7⟩ := Kd.R_slice HO134.out; subst eo7))
 repeat (go_quiet (first | (go_at_call 12; (with_reducible refine (impl_IsWord.calls a0 true _ A2.out).mono ?_); rintro e w5 ⟨rfl, hb⟩; replace HB := mA (below_step z0 hb); (try clear hb)) | (go_at_call 36; (with_reducible refine (impl_heights.calls k a0 t132 _ A4.out).mono ?_); rintro e w6 ⟨v133, rfl, ho0, hb⟩; have HO134 := mA (Kd.R_lower ho0 (below_size z0)); replace HB := mA (below_step z0 hb); (try clear hb ho0); obtain ⟨Ao7, co7, eo7⟩ := Kd.R_slice HO134.out; subst eo7)); try go_wp2_with (first | (go_at_call 12; (with_reducible refine (impl_IsWord.calls a0 true _ A2.out).mono ?_); rintro e w5 ⟨rfl, hb⟩; replace HB := mA (below_step z0 hb); (try clear hb)) | (go_at_call 36; (with_reducible refine (impl_heights.calls k a0 t132 _ A4.out).mono ?_); rintro e w6 ⟨v133, rfl, ho0, hb⟩; have HO134 := mA (Kd.R_lower ho0 (below_size z0)); replace HB := mA (below_step z0 hb); (try clear hb ho0); obtain ⟨Ao7, co7, eo7⟩ := Kd.R_slice HO134.out; subst eo7)))
 go_loopg [16] k (fun kq v16 w' => ∃ (x16_1 : Int), v16 = .int .i64 x16_1 ∧ Aside0 (impl_IsBalanced.l0 kq t132 (t132.length : Int) x16_1 = some r) ∧ Aside0 (kq ≤ k) ∧ Aside0 (Kd.R (Kd.int .i64) 2 w' w.heap.size (fun _ => True) (.slice Ao7 t132.length co7) t132) ∧ Aside0 (Below w.heap.size w w'))
 case atStart => exact ⟨(0), z1, H', ⟨Nat.le_refl _⟩, ⟨z3 HO134⟩, ⟨z0⟩⟩
 case round =>
  clear H'; (try clear c2); (try clear p2); (try clear c3); obtain ⟨x16_1, rfl, HA, HK1, HO_3, HB⟩ := hrel
  cases gk with
  | zero => exact absurd HA.out (by simp [impl_IsBalanced.l0])
  | succ k1 =>
   have H := HA.out; clear HA; simp only [impl_IsBalanced.l0] at H; refine sqC (x16_1 < (t132.length : Int)) (fun c8 => ?_) (fun c8 => ?_)
   ·rw [if_neg c8] at H; replace c8 := decide_eq_false c8; obtain rfl := Option.some.inj H; go_wp2
    repeat (go_quiet (fail); try go_wp2)
    go_ret; exact ⟨z4, z0⟩
   rw [if_pos c8] at H; replace c8 := decide_eq_true c8; obtain ⟨c9, H⟩ := sqI H; replace c9 := decide_eq_true c9; obtain ⟨c10, H⟩ := sqI H; replace c10 := decide_eq_true c10; have H' := mA H; clear H; have p135 : 0 ≤ (x16_1 : Int) := sqd; have q135 : x16_1 < (t132.length : Int) := sqd; obtain ⟨ad135, e135, hx135_0⟩ := Kd.at_int (Kd.R_reads' HO_3.out).2.2 x16_1 p135 q135
   cases e135
   replace p135 := eq_true p135; replace q135 := eq_true q135; have p136 : 0 ≤ (x16_1 : Int) := sqd; have q136 : x16_1 < (t132.length : Int) := sqd; obtain ⟨ad136, e136, hx136_0⟩ := Kd.at_int (Kd.R_reads' HO_3.out).2.2 x16_1 p136 q136; obtain rfl : ad135 = ad136 := (by injection e136); replace p136 := eq_true p136; replace q136 := eq_true q136; go_wp2
   repeat (go_quiet (fail); try go_wp2)
   go_loopg [5, 6, 7] k1 (fun kq v5 v6 v7 w' => ∃ (x5_2 : Int) (x6_2 : Int) (x7_2 : Int), v5 = .int .i64 x5_2 ∧ v6 = .int .i64 x6_2 ∧ v7 = .int .i64 x7_2 ∧ Aside0 (impl_IsBalanced.l1 kq t132 x16_1 x5_2 x6_2 x7_2 (t132.length : Int) x16_1 = some r) ∧ Aside0 (kq ≤ k1) ∧ Aside0 (Kd.R (Kd.int .i64) 2 w' w.heap.size (fun _ => True) (.slice (some ad135) t132.length co7) t132) ∧ Aside0 (Below w.heap.size w w'))
   case atStart => exact ⟨(rd t132 x16_1), (rd t132 x16_1), (x16_1), z1, z1, z1, H', ⟨Nat.le_refl _⟩, ⟨z3 HO_3⟩, ⟨z0⟩⟩
   case round =>
    clear H'; (try clear c1); (try clear p1); (try clear q1); (try clear hx1); (try clear c2); (try clear p2); (try clear c3); (try clear c8); (try clear c8b0); (try clear c9); (try clear c9b0); (try clear c10); (try clear c10b0); (try clear hx135_0); (try clear hx136_0); (try clear p135); (try clear p136); (try clear p2); (try clear q135); (try clear q136); obtain ⟨x5_2, x6_2, x7_2, rfl, rfl, rfl, HA, HK2, HO_3, HB⟩ := hrel
    cases gk with
    | zero => exact absurd HA.out (by simp [impl_IsBalanced.l1])
    | succ k2 =>
     have H := HA.out; clear HA; simp only [impl_IsBalanced.l1] at H; refine sqC (x7_2 < (t132.length : Int)) (fun c11 => ?_) (fun c11 => ?_)
     ·rw [if_neg c11] at H; replace c11 := decide_eq_false c11; by_cases c18 : (wrap64 (x6_2 - x5_2)) > 1
      ·rw [if_pos c18] at H; replace c18 := decide_eq_true c18; obtain rfl := Option.some.inj H; go_wp2
       repeat (go_quiet (fail); try go_wp2)
       go_ret; exact ⟨z4, z0⟩
      rw [if_neg c18] at H; replace c18 := decide_eq_false c18; have H' := mA H; clear H; go_wp2
      repeat (go_quiet (fail); try go_wp2)
      go_roundg k2
      case measure => have := HK1.out; have := HK2.out; omega
      case rel => exact ⟨(wrap64 (x16_1 + 1)), z1, H', ⟨by have := HK1.out; have := HK2.out; omega⟩, ⟨z3 HO_3⟩, ⟨z0⟩⟩
     rw [if_pos c11] at H; replace c11 := decide_eq_true c11; obtain ⟨c12, H⟩ := sqI H; replace c12 := decide_eq_true c12; obtain ⟨ji13, hji13⟩ : ∃ j_ : Int, (wrap64 (x7_2 - x16_1)) = j_ := ⟨_, rfl⟩
     replace H : (if 0 ≤ (ji13) then (if (ji13) < (t132.length : Int) then (impl_IsBalanced.l1 k2 t132 x16_1 (mn x5_2 (wrap64 ((rd t132 x7_2) - (rd t132 (ji13))))) (mx x6_2 (wrap64 ((rd t132 x7_2) - (rd t132 (ji13))))) (wrap64 (x7_2 + 1)) (t132.length : Int) x16_1) else (none)) else (none)) = some r := by first | (rw [hji13] at H; exact H) | (simp only [hji13] at H ⊢; exact H)
     have hji13w : (IntKind.i64.wrap (x7_2 - x16_1)) = ji13 := (i64_w _).trans hji13; obtain ⟨c14, H⟩ := sqI H; replace c14 := decide_eq_true c14; obtain ⟨c15, H⟩ := sqI H; replace c15 := decide_eq_true c15; obtain ⟨ji16, hji16⟩ : ∃ j_ : Int, (mn x5_2 (wrap64 ((rd t132 x7_2) - (rd t132 (ji13))))) = j_ := ⟨_, rfl⟩
     replace H : (impl_IsBalanced.l1 k2 t132 x16_1 ji16 (mx x6_2 (wrap64 ((rd t132 x7_2) - (rd t132 (ji13))))) (wrap64 (x7_2 + 1)) (t132.length : Int) x16_1) = some r := by first | (rw [hji16] at H; exact H) | (simp only [hji16] at H ⊢; exact H)
     have hji16_ : (if (wrap64 ((rd t132 x7_2) - (rd t132 (ji13)))) < x5_2 then (wrap64 ((rd t132 x7_2) - (rd t132 (ji13)))) else x5_2) = ji16 := hji16; obtain ⟨ji17, hji17⟩ : ∃ j_ : Int, (mx x6_2 (wrap64 ((rd t132 x7_2) - (rd t132 (ji13))))) = j_ := ⟨_, rfl⟩
     replace H : (impl_IsBalanced.l1 k2 t132 x16_1 ji16 ji17 (wrap64 (x7_2 + 1)) (t132.length : Int) x16_1) = some r := by first | (rw [hji17] at H; exact H) | (simp only [hji17] at H ⊢; exact H)
     have hji17_ : (if x6_2 < (wrap64 ((rd t132 x7_2) - (rd t132 (ji13)))) then (wrap64 ((rd t132 x7_2) - (rd t132 (ji13)))) else x6_2) = ji17 := hji17; have H' := mA H; clear H; have p137 : 0 ≤ (x7_2 : Int) := sqd; have q137 : x7_2 < (t132.length : Int) := sqd; obtain ⟨ad137, e137, hx137_0⟩ := Kd.at_int (Kd.R_reads' HO_3.out).2.2 x7_2 p137 q137; obtain rfl : ad135 = ad137 := (by injection e137); replace p137 := eq_true p137; replace q137 := eq_true q137; have p138 : 0 ≤ ((ji13) : Int) := sqd; have q138 : (ji13) < (t132.length : Int) := sqd; obtain ⟨ad138, e138, hx138_0⟩ := Kd.at_int (Kd.R_reads' HO_3.out).2.2 (ji13) p138 q138; obtain rfl : ad135 = ad138 := (by injection e138); replace p138 := eq_true p138; replace q138 := eq_true q138; go_wp2
     repeat (go_quiet (fail); try go_wp2)
     go_roundg k2
     case measure => have := HK1.out; have := HK2.out; omega
     case rel => exact ⟨(ji16), (ji17), (wrap64 (x7_2 + 1)), (by first | rfl | (simp; done) | (simp only [← hji16] <;> (first | rfl | simp)) | (simp [*]; done)), (by first | rfl | (simp; done) | (simp only [← hji17] <;> (first | rfl | simp)) | (simp [*]; done)), z1, H', ⟨by have := HK1.out; have := HK2.out; omega⟩, ⟨z3 HO_3⟩, ⟨z0⟩⟩

end Go.Proofs.YtkmghekffehimaaDoor.PFnExactIsBalanced
