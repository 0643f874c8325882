/- Written by this session's program (wip/tool/xprint.py) over the kit's printer. -/
import Derived.Test.YtdcglkdgepdnpaaPFnExactCountTablesx0
namespace Go.Proofs.Ytdcglkdgepdnpaa.PFnExactCountTables
open Go.RowKit Go.Proofs.YtdcglkdgepdnpaaW.PrintWords Go.Proofs.YtdcglkdgepdnpaaW.PrintLast Go.Proofs.YtdcglkdgepdnpaaW.PrintMore
attribute [local go_sem] max2_int min2_int max_two min_two max_three min_three max_four min_four   -- for this text's walks alone
set_option linter.unusedVariables false
set_option linter.unusedSimpArgs false

/-! ### laws_szInt64S: function 34 -/
def laws_szInt64S.f (l0 : List Int) (a1 : Int) : Option (Int) := if (wrap64 (a1 - (l0.length : Int))) < 0 then (some (-1)) else (some (wrap64 (a1 - (l0.length : Int))))
set_option maxHeartbeats 8000000 in
set_option maxRecDepth 100000 in
theorem laws_szInt64S.calls (A0 : Option Addr) (c0 : Nat) (l0 : List Int) (a1 : Int) (r : Int) (w : World) (hr0 : Kd.C (Kd.int .i64) w A0 l0.length l0) (hc0 : l0.length ≤ c0) (h : laws_szInt64S.f l0 a1 = some r) :
    Calls Try.prog 34 #[.slice A0 l0.length c0, .int .i64 a1] w fun e w' => e = .returned (.int .i64 r) ∧ Drawn0 w w' := by
 have HR0 := mA hr0; have HC0 := mA hc0; clear hr0 hc0; have H : (if (wrap64 (a1 - (l0.length : Int))) < 0 then (some (-1)) else (some (wrap64 (a1 - (l0.length : Int))))) = some r := h; clear h; by_cases c3 : (wrap64 (a1 - (l0.length : Int))) < 0
 ·rw [if_pos c3] at H; replace c3 := decide_eq_true c3; obtain rfl := Option.some.inj H; go_enter Try.func34, Try.ntmps34; go_wp2; go_ret; exact ⟨zq4, zq10⟩
 rw [if_neg c3] at H; replace c3 := decide_eq_false c3; obtain rfl := Option.some.inj H; go_enter Try.func34, Try.ntmps34; go_wp2; go_ret; exact ⟨zq4, zq10⟩

/-! ### laws_szInt64SS: function 16 -/
def laws_szInt64SS.l0 : Nat → List (List Int) → Int → Int → Option (Int)
  | 0, _, _, _ => none
  | k + 1, x0, x1, x5 => if x5 < (x0.length : Int) then (if 0 ≤ x5 then ((laws_szInt64S.f (rd_L1 x0 x5) x1).bind fun t102 => (if t102 < 0 then (some (-1)) else (laws_szInt64SS.l0 k x0 t102 (wrap64 (x5 + 1))))) else (none)) else (some x1)
def laws_szInt64SS.f (k : Nat) (l0 : List (List Int)) (a1 : Int) : Option (Int) := if (wrap64 (a1 - (l0.length : Int))) < 0 then (some (-1)) else (laws_szInt64SS.l0 k l0 (wrap64 (a1 - (l0.length : Int))) 0)
theorem laws_szInt64SS.mono_l : ∀ k, (∀ y0 y1 y2, LeO (laws_szInt64SS.l0 k y0 y1 y2) (laws_szInt64SS.l0 (k + 1) y0 y1 y2))
  | 0 => fun _ _ _ r h => by simp [laws_szInt64SS.l0] at h
  | k + 1 => by
   have ih0 := laws_szInt64SS.mono_l k
   intros
   unfold laws_szInt64SS.l0
   all_goals repeat' first | (with_reducible first | apply ih0 | exact LeO.refl _ | exact LeO.none _ | refine LeO.ite ?_ ?_ | refine LeO.bind ?_ (fun _ => ?_)) | apply ih0 | exact LeO.none _ | refine LeO.ite ?_ ?_ | refine LeO.bind ?_ (fun _ => ?_)
theorem laws_szInt64SS.mono : ∀ a0 a1 k, LeO (laws_szInt64SS.f k a0 a1) (laws_szInt64SS.f (k + 1) a0 a1) := by
  intro a0 a1 k
  have ih0 := laws_szInt64SS.mono_l k
  unfold laws_szInt64SS.f
  repeat' first | (with_reducible first | apply ih0 | exact LeO.refl _ | exact LeO.none _ | refine LeO.ite ?_ ?_ | refine LeO.bind ?_ (fun _ => ?_)) | apply ih0 | exact LeO.none _ | refine LeO.ite ?_ ?_ | refine LeO.bind ?_ (fun _ => ?_)
set_option maxHeartbeats 8000000 in
set_option maxRecDepth 100000 in
theorem laws_szInt64SS.calls (k : Nat) (A0 : Option Addr) (c0 : Nat) (l0 : List (List Int)) (a1 : Int) (r : Int) (w : World) (hr0 : Kd.C (Kd.slice 2 (Kd.int .i64)) w A0 l0.length l0) (hc0 : l0.length ≤ c0) (h : laws_szInt64SS.f k l0 a1 = some r) :
    Calls Try.prog 16 #[.slice A0 l0.length c0, .int .i64 a1] w fun e w' => e = .returned (.int .i64 r) ∧ Drawn0 w w' := by
 have HR0 := mA hr0; have HC0 := mA hc0; clear hr0 hc0; have H : (if (wrap64 (a1 - (l0.length : Int))) < 0 then (some (-1)) else (laws_szInt64SS.l0 k l0 (wrap64 (a1 - (l0.length : Int))) 0)) = some r := h; clear h; by_cases c3 : (wrap64 (a1 - (l0.length : Int))) < 0
 ·rw [if_pos c3] at H; replace c3 := decide_eq_true c3; obtain rfl := Option.some.inj H; go_enter Try.func16, Try.ntmps16; go_wp2; go_ret; exact ⟨zq4, zq10⟩
 rw [if_neg c3] at H; replace c3 := decide_eq_false c3; have H' := mA H; clear H; go_enter Try.func16, Try.ntmps16; go_wp2; go_loopg [1, 5] k (fun kq v1 v5 w' => ∃ (x1_1 : Int) (x5_1 : Int), v1 = .int .i64 x1_1 ∧ v5 = .int .i64 x5_1 ∧ Aside0 (laws_szInt64SS.l0 kq l0 x1_1 x5_1 = some r) ∧ Aside0 (kq ≤ k) ∧ Drawn0 w w')
 case atStart => exact ⟨(wrap64 (a1 - (l0.length : Int))), (0), zq4, zq4, H', ⟨Nat.le_refl _⟩, zq10⟩
 case round =>
  clear H'; (try clear c1); (try clear p2); (try clear c3); (try clear c3b0); obtain ⟨x1_1, x5_1, rfl, rfl, HA, HK1, ⟨m1, rfl⟩⟩ := hrel
  cases gk with
  | zero => exact absurd HA.out (by simp [laws_szInt64SS.l0])
  | succ k1 =>
   have H := HA.out; clear HA; simp only [laws_szInt64SS.l0] at H; refine sqC (x5_1 < (l0.length : Int)) (fun c4 => ?_) (fun c4 => ?_)
   ·rw [if_neg c4] at H; have c4b0 : decide (x5_1 < (l0.length : Int)) = false := decide_eq_false c4; clear c4; obtain rfl := Option.some.inj H; go_wp2; go_ret; exact ⟨zq4, zq10⟩
   rw [if_pos c4] at H; have c4b0 : decide (x5_1 < (l0.length : Int)) = true := decide_eq_true c4; clear c4; obtain ⟨c5, H⟩ := sqI H; replace c5 := decide_eq_true c5; obtain ⟨t102, A6, H⟩ := sqB H; by_cases c7 : t102 < 0
   ·rw [if_pos c7] at H; replace c7 := decide_eq_true c7; obtain rfl := Option.some.inj H; have p101 : 0 ≤ (x5_1 : Int) := sqd; have q101 : x5_1 < (l0.length : Int) := sqd; obtain ⟨ad101, A101_0, c101_0, e101, hx101_0, hl101_0, hi101_0⟩ := at_L1 HR0.out x5_1 p101 q101
    cases e101
    have HR101_0 := mA hi101_0; have HC101_0 := mA hl101_0; clear hi101_0 hl101_0; replace p101 := eq_true p101; replace q101 := eq_true q101; go_wp2_with (first | (refine sqG 34 (some 23) Try.func34 #[.slice A101_0 (rd_L1 l0 x5_1).length c101_0, .int .i64 x1_1] (h := ?_); (with_reducible refine (laws_szInt64S.calls _ _ (rd_L1 l0 x5_1) x1_1 t102 _ ?s1 ?s2 A6.out).mono ?_); (case s1 => repeat (first | exact HR101_0.out | (with_reducible refine Kd.C_alloc ?_ _) | (with_reducible refine Kd.C_drewN ?_ _) | (with_reducible refine Kd.C_drew ?_))); (case s2 => exact HC101_0.out); rintro e w' ⟨rfl, ⟨nd, rfl⟩⟩; refine ⟨_, rfl, ?_⟩)); go_ret; exact ⟨zq4, zq10⟩
   rw [if_neg c7] at H; replace c7 := decide_eq_false c7; have H' := mA H; clear H; have p101 : 0 ≤ (x5_1 : Int) := sqd; have q101 : x5_1 < (l0.length : Int) := sqd; obtain ⟨ad101, A101_0, c101_0, e101, hx101_0, hl101_0, hi101_0⟩ := at_L1 HR0.out x5_1 p101 q101
   cases e101
   have HR101_0 := mA hi101_0; have HC101_0 := mA hl101_0; clear hi101_0 hl101_0; replace p101 := eq_true p101; replace q101 := eq_true q101; go_wp2_with (first | (refine sqG 34 (some 23) Try.func34 #[.slice A101_0 (rd_L1 l0 x5_1).length c101_0, .int .i64 x1_1] (h := ?_); (with_reducible refine (laws_szInt64S.calls _ _ (rd_L1 l0 x5_1) x1_1 t102 _ ?s1 ?s2 A6.out).mono ?_); (case s1 => repeat (first | exact HR101_0.out | (with_reducible refine Kd.C_alloc ?_ _) | (with_reducible refine Kd.C_drewN ?_ _) | (with_reducible refine Kd.C_drew ?_))); (case s2 => exact HC101_0.out); rintro e w' ⟨rfl, ⟨nd, rfl⟩⟩; refine ⟨_, rfl, ?_⟩)); go_roundg k1
   case measure => have := HK1.out; omega
   case rel => exact ⟨(t102), (wrap64 (x5_1 + 1)), zq4, zq4, H', ⟨by have := HK1.out; omega⟩, zq10⟩

/-! ### laws_szTable: function 5 -/
def laws_szTable.f (k : Nat) (a0_0 : Int) (l0_1 : List (List Int)) (a1 : Int) : Option (Int) := (laws_szInt64SS.f k l0_1 a1).bind fun t104 => (if t104 < 0 then (some (-1)) else (some t104))
theorem laws_szTable.mono : ∀ a0 a1 a2 k, LeO (laws_szTable.f k a0 a1 a2) (laws_szTable.f (k + 1) a0 a1 a2) := by
  intro a0 a1 a2 k
  unfold laws_szTable.f
  repeat' first | (with_reducible first | apply laws_szInt64SS.mono | exact LeO.refl _ | exact LeO.none _ | refine LeO.ite ?_ ?_ | refine LeO.bind ?_ (fun _ => ?_)) | apply laws_szInt64SS.mono | exact LeO.none _ | refine LeO.ite ?_ ?_ | refine LeO.bind ?_ (fun _ => ?_)
set_option maxHeartbeats 8000000 in
set_option maxRecDepth 100000 in
theorem laws_szTable.calls (k : Nat) (a0_0 : Int) (A0_1 : Option Addr) (c0_1 : Nat) (l0_1 : List (List Int)) (a1 : Int) (r : Int) (w : World) (hr0_1 : Kd.C (Kd.slice 2 (Kd.int .i64)) w A0_1 l0_1.length l0_1) (hc0_1 : l0_1.length ≤ c0_1) (h : laws_szTable.f k a0_0 l0_1 a1 = some r) :
    Calls Try.prog 5 #[.agg #[.int .i64 a0_0, .slice A0_1 l0_1.length c0_1], .int .i64 a1] w fun e w' => e = .returned (.int .i64 r) ∧ Below w.heap.size w w' := by
 have hu24 := Try.underlying24; have HR0_1 := mA hr0_1; have HC0_1 := mA hc0_1; clear hr0_1 hc0_1; have HB := mA (Below.refl w.heap.size w); have H : ((laws_szInt64SS.f k l0_1 a1).bind fun t104 => (if t104 < 0 then (some (-1)) else (some t104))) = some r := h; clear h; obtain ⟨t104, A3, H⟩ := sqB H; by_cases c4 : t104 < 0
 ·rw [if_pos c4] at H; have c4b0 : decide (t104 < 0) = true := decide_eq_true c4; clear c4; obtain rfl := Option.some.inj H; go_enter Try.func5, Try.ntmps5; go_wp2_with (first | (refine sqX 2 #[.int .i64 a0_0, .slice A0_1 l0_1.length c0_1] 24 ?_; intro gb103 hg w5 hbox hb; have BK103 := mA (hbox); have GW103 := mA ((zq8 : w.heap.size ≤ gb103)); have GE103 := mA ((zq8 : w.heap.size ≤ gb103)); replace HB := mA (below_step zq3 hb); clear hb hbox hg; have hcz6_0 := sqZ0 BK103; have hcz6_1 := sqZ1 BK103; have hfz6_0 := blk_frozen BK103.out 0; have hfz6_1 := blk_frozen BK103.out 1) | (refine sqG 16 (some 8) Try.func16 #[.slice A0_1 l0_1.length c0_1, .int .i64 a1] (h := ?_); (with_reducible refine (laws_szInt64SS.calls k _ _ l0_1 a1 t104 _ ?s1 ?s2 A3.out).mono ?_); (case s1 => repeat (first | exact (Kd.C_below HR0_1.out HB.out) | (with_reducible refine Kd.C_alloc ?_ _) | (with_reducible refine Kd.C_drewN ?_ _) | (with_reducible refine Kd.C_drew ?_))); (case s2 => exact HC0_1.out); rintro e w' ⟨rfl, ⟨nd, rfl⟩⟩; refine ⟨_, rfl, ?_⟩)); go_ret; exact ⟨zq6, zq1⟩
 rw [if_neg c4] at H; have c4b0 : decide (t104 < 0) = false := decide_eq_false c4; clear c4; obtain rfl := Option.some.inj H; go_enter Try.func5, Try.ntmps5; go_wp2_with (first | (refine sqX 2 #[.int .i64 a0_0, .slice A0_1 l0_1.length c0_1] 24 ?_; intro gb103 hg w7 hbox hb; have BK103 := mA (hbox); have GW103 := mA ((zq8 : w.heap.size ≤ gb103)); have GE103 := mA ((zq8 : w.heap.size ≤ gb103)); replace HB := mA (below_step zq3 hb); clear hb hbox hg; have hcz8_0 := sqZ0 BK103; have hcz8_1 := sqZ1 BK103; have hfz8_0 := blk_frozen BK103.out 0; have hfz8_1 := blk_frozen BK103.out 1) | (refine sqG 16 (some 8) Try.func16 #[.slice A0_1 l0_1.length c0_1, .int .i64 a1] (h := ?_); (with_reducible refine (laws_szInt64SS.calls k _ _ l0_1 a1 t104 _ ?s1 ?s2 A3.out).mono ?_); (case s1 => repeat (first | exact (Kd.C_below HR0_1.out HB.out) | (with_reducible refine Kd.C_alloc ?_ _) | (with_reducible refine Kd.C_drewN ?_ _) | (with_reducible refine Kd.C_drew ?_))); (case s2 => exact HC0_1.out); rintro e w' ⟨rfl, ⟨nd, rfl⟩⟩; refine ⟨_, rfl, ?_⟩)); go_ret; exact ⟨zq6, zq1⟩

/-! ### spec_l00In: function 35 -/
def spec_l00In.f (a0 : Int) (a1 : Int) (a2 : Int) : Option (Bool) := if a0 ≥ a1 then (some (decide (a0 ≤ a2))) else (some false)
set_option maxHeartbeats 8000000 in
set_option maxRecDepth 100000 in
theorem spec_l00In.calls (a0 : Int) (a1 : Int) (a2 : Int) (r : Bool) (w : World) (h : spec_l00In.f a0 a1 a2 = some r) :
    Calls Try.prog 35 #[.int .i64 a0, .int .i64 a1, .int .i64 a2] w fun e w' => e = .returned (.bool r) ∧ Drawn0 w w' := by
 have H : (if a0 ≥ a1 then (some (decide (a0 ≤ a2))) else (some false)) = some r := h; clear h; by_cases c4 : a0 ≥ a1
 ·rw [if_pos c4] at H; have c4b0 : decide (a1 ≤ a0) = true := decide_eq_true c4; clear c4; obtain rfl := Option.some.inj H; go_enter Try.func35, Try.ntmps35; go_wp2; go_ret; exact ⟨zq4, zq10⟩
 rw [if_neg c4] at H; have c4b0 : decide (a1 ≤ a0) = false := decide_eq_false c4; clear c4; obtain rfl := Option.some.inj H; go_enter Try.func35, Try.ntmps35; go_wp2; go_ret; exact ⟨zq4, zq10⟩

/-! ### spec_l05Side: function 36 -/
def spec_l05Side.f (a0 : Int) : Option (Bool) := if a0 ≥ 1 then (some (decide (a0 ≤ 5))) else (some false)
set_option maxHeartbeats 8000000 in
set_option maxRecDepth 100000 in
theorem spec_l05Side.calls (a0 : Int) (r : Bool) (w : World) (h : spec_l05Side.f a0 = some r) :
    Calls Try.prog 36 #[.int .i64 a0] w fun e w' => e = .returned (.bool r) ∧ Drawn0 w w' := by
 have H : (if a0 ≥ 1 then (some (decide (a0 ≤ 5))) else (some false)) = some r := h; clear h; by_cases c2 : a0 ≥ 1
 ·rw [if_pos c2] at H; have c2b0 : decide (1 ≤ a0) = true := decide_eq_true c2; clear c2; obtain rfl := Option.some.inj H; go_enter Try.func36, Try.ntmps36; go_wp2; go_ret; exact ⟨zq4, zq10⟩
 rw [if_neg c2] at H; have c2b0 : decide (1 ≤ a0) = false := decide_eq_false c2; clear c2; obtain rfl := Option.some.inj H; go_enter Try.func36, Try.ntmps36; go_wp2; go_ret; exact ⟨zq4, zq10⟩

/-! ### spec_l05Is: function 17 -/
mutual
def spec_l05Is.j0 : Nat → Bool → Int → List (List Int) → Option (Bool)
  | 0, _, _, _ => none
  | k + 1, x30, x41000, x41001 => if x30 = true then (some false) else (spec_l05Is.l0 k 0 x41000 x41001)
def spec_l05Is.l0 : Nat → Int → Int → List (List Int) → Option (Bool)
  | 0, _, _, _ => none
  | k + 1, x3, x41000, x41001 => if x3 < (x41001.length : Int) then (if 0 ≤ x3 then (if 0 < (x41001.length : Int) then (if ((rd_L1 x41001 x3).length : Int) = ((rd_L1 x41001 0).length : Int) then (spec_l05Is.l1 k x3 0 x41000 x41001) else (some false)) else (none)) else (none)) else (some true)
def spec_l05Is.l1 : Nat → Int → Int → Int → List (List Int) → Option (Bool)
  | 0, _, _, _, _ => none
  | k + 1, x3, x4, x41000, x41001 => if 0 ≤ x3 then (if x3 < (x41001.length : Int) then (if x4 < ((rd_L1 x41001 x3).length : Int) then (if 0 ≤ x4 then ((spec_l00In.f (rd (rd_L1 x41001 x3) x4) 0 100000).bind fun t114 => (if t114 = true then (spec_l05Is.l1 k x3 (wrap64 (x4 + 1)) x41000 x41001) else (some false))) else (none)) else (spec_l05Is.l0 k (wrap64 (x3 + 1)) x41000 x41001)) else (none)) else (none)
end
def spec_l05Is.f (k : Nat) (a0_0 : Int) (l0_1 : List (List Int)) : Option (Bool) := (spec_l00In.f a0_0 1 1000).bind fun t105 => (if t105 = true then ((spec_l05Side.f (l0_1.length : Int)).bind fun t106 => (if t106 = true then (if 0 < (l0_1.length : Int) then ((spec_l05Side.f ((rd_L1 l0_1 0).length : Int)).bind fun t108 => (spec_l05Is.j0 k (!t108) a0_0 l0_1)) else (none)) else (spec_l05Is.j0 k true a0_0 l0_1))) else (spec_l05Is.j0 k true a0_0 l0_1))
theorem spec_l05Is.mono_l : ∀ k, (∀ y0 y1 y2, LeO (spec_l05Is.j0 k y0 y1 y2) (spec_l05Is.j0 (k + 1) y0 y1 y2)) ∧ (∀ y0 y1 y2, LeO (spec_l05Is.l0 k y0 y1 y2) (spec_l05Is.l0 (k + 1) y0 y1 y2)) ∧ (∀ y0 y1 y2 y3, LeO (spec_l05Is.l1 k y0 y1 y2 y3) (spec_l05Is.l1 (k + 1) y0 y1 y2 y3))
  | 0 => ⟨fun _ _ _ r h => by simp [spec_l05Is.j0] at h, fun _ _ _ r h => by simp [spec_l05Is.l0] at h, fun _ _ _ _ r h => by simp [spec_l05Is.l1] at h⟩
  | k + 1 => by
   obtain ⟨ih0, ih1, ih2⟩ := spec_l05Is.mono_l k
   refine ⟨?_, ?_, ?_⟩ <;> intros
   all_goals first | unfold spec_l05Is.j0 | unfold spec_l05Is.l0 | unfold spec_l05Is.l1
   all_goals repeat' first | (with_reducible first | apply ih0 | apply ih1 | apply ih2 | exact LeO.refl _ | exact LeO.none _ | refine LeO.ite ?_ ?_ | refine LeO.bind ?_ (fun _ => ?_)) | apply ih0 | apply ih1 | apply ih2 | exact LeO.none _ | refine LeO.ite ?_ ?_ | refine LeO.bind ?_ (fun _ => ?_)
theorem spec_l05Is.mono : ∀ a0 a1 k, LeO (spec_l05Is.f k a0 a1) (spec_l05Is.f (k + 1) a0 a1) := by
  intro a0 a1 k
  obtain ⟨ih0, ih1, ih2⟩ := spec_l05Is.mono_l k
  unfold spec_l05Is.f
  repeat' first | (with_reducible first | apply ih0 | apply ih1 | apply ih2 | exact LeO.refl _ | exact LeO.none _ | refine LeO.ite ?_ ?_ | refine LeO.bind ?_ (fun _ => ?_)) | apply ih0 | apply ih1 | apply ih2 | exact LeO.none _ | refine LeO.ite ?_ ?_ | refine LeO.bind ?_ (fun _ => ?_)
set_option maxHeartbeats 8000000 in
set_option maxRecDepth 100000 in
theorem spec_l05Is.calls (k : Nat) (gv0_0_ : Nat) (a0_0 : Int) (A0_1 : Option Addr) (c0_1 : Nat) (l0_1 : List (List Int)) (r : Bool) (w : World) (hbx0_0_ : w.heap[gv0_0_]? = some (.cells #[.int .i64 a0_0, .slice A0_1 l0_1.length c0_1] 28 (0, 0))) (hr0_1 : Kd.C (Kd.slice 2 (Kd.int .i64)) w A0_1 l0_1.length l0_1) (hc0_1 : l0_1.length ≤ c0_1) (h : spec_l05Is.f k a0_0 l0_1 = some r) :
    Calls Try.prog 17 #[.pointer (some ⟨gv0_0_, 0, none⟩)] w fun e w' => e = .returned (.bool r) ∧ Below w.heap.size w w' := by
 have HR0_1 := mA hr0_1; have HC0_1 := mA hc0_1; clear hr0_1 hc0_1; have BK40 := mA hbx0_0_; clear hbx0_0_; have HB := mA (Below.refl w.heap.size w); have H : ((spec_l00In.f a0_0 1 1000).bind fun t105 => (if t105 = true then ((spec_l05Side.f (l0_1.length : Int)).bind fun t106 => (if t106 = true then (if 0 < (l0_1.length : Int) then ((spec_l05Side.f ((rd_L1 l0_1 0).length : Int)).bind fun t108 => (spec_l05Is.j0 k (!t108) a0_0 l0_1)) else (none)) else (spec_l05Is.j0 k true a0_0 l0_1))) else (spec_l05Is.j0 k true a0_0 l0_1))) = some r := h; clear h; have HC2 := mA H; clear H; go_enter Try.func17, Try.ntmps17
 go_upto_region 1 with (fail)
 repeat (go_quiet (fail); go_upto_region 1 with (fail))
 go_cut [30] (fun v30 wc => ∃ (kq : Nat) (x30_1 : Bool), v30 = .bool x30_1 ∧ Aside0 (spec_l05Is.j0 kq x30_1 a0_0 l0_1 = some r) ∧ Aside0 (kq ≤ k) ∧ Aside0 (wc.heap[gv0_0_]? = some (.cells #[.int .i64 a0_0, (.slice A0_1 l0_1.length c0_1)] 28 (0, 0))) ∧ Aside0 (Below w.heap.size w wc))
 case first =>
  have H := HC2.out; clear HC2; obtain ⟨t105, A3, H⟩ := sqB H; by_cases c4 : t105 = true
  ·subst c4; rw [if_pos rfl] at H; obtain ⟨t106, A5, H⟩ := sqB H; by_cases c6 : t106 = true
   ·subst c6; rw [if_pos rfl] at H; obtain ⟨c7, H⟩ := sqI H; have c7b0 := decide_eq_true c7; have c7b1 : decide (0 < l0_1.length) = true := decide_eq_true (by omega); clear c7; (first | rw [c7b0] | (simp only [i64_w, i32_w]; rw [c7b0]) | skip); obtain ⟨t108, A8, H⟩ := sqB H; have H' := mA H; clear H; have hcz9_0 := sqZ0 BK40; have hcz9_1 := sqZ1 BK40; have hfz9_0 := blk_frozen BK40.out 0; have hfz9_1 := blk_frozen BK40.out 1; go_wp2_with (first | (go_at_call 35; (with_reducible refine (spec_l00In.calls a0_0 1 1000 true _ A3.out).mono ?_); rintro e w' ⟨rfl, ⟨nd, rfl⟩⟩; (try first | exact ⟨rfl, _, World.drewN_drewN _ _ _⟩ | exact ⟨rfl, _, Eq.trans (World.drewN_drewN _ _ _) (congrArg (World.drewN _) (Nat.add_assoc _ _ _))⟩)) | (go_at_call 36; (with_reducible refine (spec_l05Side.calls (l0_1.length : Int) true _ A5.out).mono ?_); rintro e w' ⟨rfl, ⟨nd, rfl⟩⟩; (try first | exact ⟨rfl, _, World.drewN_drewN _ _ _⟩ | exact ⟨rfl, _, Eq.trans (World.drewN_drewN _ _ _) (congrArg (World.drewN _) (Nat.add_assoc _ _ _))⟩); have p107 : 0 ≤ (0 : Int) := (by omega); have q107 : 0 < (l0_1.length : Int) := sqd; obtain ⟨ad107, A107_0, c107_0, e107, hx107_0, hl107_0, hi107_0⟩ := at_L1 HR0_1.out 0 p107 q107; cases e107; have qi107 : (0 < l0_1.length) = True := eq_true (by omega); (try rw [show ((0 : Int)).toNat = 0 from rfl] at hx107_0); (try rw [Addr.add_zero'] at hx107_0); replace hx107_0 := sqh HB hx107_0; have HR107_0 := mA hi107_0; have HC107_0 := mA hl107_0; clear hi107_0 hl107_0; replace p107 := eq_true p107; replace q107 := eq_true q107) | (go_at_call 36; (with_reducible refine (spec_l05Side.calls ((rd_L1 l0_1 0).length : Int) t108 _ A8.out).mono ?_); rintro e w' ⟨rfl, ⟨nd, rfl⟩⟩; (try first | exact ⟨rfl, _, World.drewN_drewN _ _ _⟩ | exact ⟨rfl, _, Eq.trans (World.drewN_drewN _ _ _) (congrArg (World.drewN _) (Nat.add_assoc _ _ _))⟩)))
    repeat (go_quiet (first | (go_at_call 35; (with_reducible refine (spec_l00In.calls a0_0 1 1000 true _ A3.out).mono ?_); rintro e w' ⟨rfl, ⟨nd, rfl⟩⟩; (try first | exact ⟨rfl, _, World.drewN_drewN _ _ _⟩ | exact ⟨rfl, _, Eq.trans (World.drewN_drewN _ _ _) (congrArg (World.drewN _) (Nat.add_assoc _ _ _))⟩)) | (go_at_call 36; (with_reducible refine (spec_l05Side.calls (l0_1.length : Int) true _ A5.out).mono ?_); rintro e w' ⟨rfl, ⟨nd, rfl⟩⟩; (try first | exact ⟨rfl, _, World.drewN_drewN _ _ _⟩ | exact ⟨rfl, _, Eq.trans (World.drewN_drewN _ _ _) (congrArg (World.drewN _) (Nat.add_assoc _ _ _))⟩); have p107 : 0 ≤ (0 : Int) := (by omega); have q107 : 0 < (l0_1.length : Int) := sqd; obtain ⟨ad107, A107_0, c107_0, e107, hx107_0, hl107_0, hi107_0⟩ := at_L1 HR0_1.out 0 p107 q107; cases e107; have qi107 : (0 < l0_1.length) = True := eq_true (by omega); (try rw [show ((0 : Int)).toNat = 0 from rfl] at hx107_0); (try rw [Addr.add_zero'] at hx107_0); replace hx107_0 := sqh HB hx107_0; have HR107_0 := mA hi107_0; have HC107_0 := mA hl107_0; clear hi107_0 hl107_0; replace p107 := eq_true p107; replace q107 := eq_true q107) | (go_at_call 36; (with_reducible refine (spec_l05Side.calls ((rd_L1 l0_1 0).length : Int) t108 _ A8.out).mono ?_); rintro e w' ⟨rfl, ⟨nd, rfl⟩⟩; (try first | exact ⟨rfl, _, World.drewN_drewN _ _ _⟩ | exact ⟨rfl, _, Eq.trans (World.drewN_drewN _ _ _) (congrArg (World.drewN _) (Nat.add_assoc _ _ _))⟩))); try go_wp2_with (first | (go_at_call 35; (with_reducible refine (spec_l00In.calls a0_0 1 1000 true _ A3.out).mono ?_); rintro e w' ⟨rfl, ⟨nd, rfl⟩⟩; (try first | exact ⟨rfl, _, World.drewN_drewN _ _ _⟩ | exact ⟨rfl, _, Eq.trans (World.drewN_drewN _ _ _) (congrArg (World.drewN _) (Nat.add_assoc _ _ _))⟩)) | (go_at_call 36; (with_reducible refine (spec_l05Side.calls (l0_1.length : Int) true _ A5.out).mono ?_); rintro e w' ⟨rfl, ⟨nd, rfl⟩⟩; (try first | exact ⟨rfl, _, World.drewN_drewN _ _ _⟩ | exact ⟨rfl, _, Eq.trans (World.drewN_drewN _ _ _) (congrArg (World.drewN _) (Nat.add_assoc _ _ _))⟩); have p107 : 0 ≤ (0 : Int) := (by omega); have q107 : 0 < (l0_1.length : Int) := sqd; obtain ⟨ad107, A107_0, c107_0, e107, hx107_0, hl107_0, hi107_0⟩ := at_L1 HR0_1.out 0 p107 q107; cases e107; have qi107 : (0 < l0_1.length) = True := eq_true (by omega); (try rw [show ((0 : Int)).toNat = 0 from rfl] at hx107_0); (try rw [Addr.add_zero'] at hx107_0); replace hx107_0 := sqh HB hx107_0; have HR107_0 := mA hi107_0; have HC107_0 := mA hl107_0; clear hi107_0 hl107_0; replace p107 := eq_true p107; replace q107 := eq_true q107) | (go_at_call 36; (with_reducible refine (spec_l05Side.calls ((rd_L1 l0_1 0).length : Int) t108 _ A8.out).mono ?_); rintro e w' ⟨rfl, ⟨nd, rfl⟩⟩; (try first | exact ⟨rfl, _, World.drewN_drewN _ _ _⟩ | exact ⟨rfl, _, Eq.trans (World.drewN_drewN _ _ _) (congrArg (World.drewN _) (Nat.add_assoc _ _ _))⟩))))
    go_meet
    case rel => exact ⟨_, (!t108), zq4, H', ⟨zq21⟩, ⟨zq0 BK40⟩, ⟨zq1⟩⟩
   replace c6 := Bool.eq_false_iff.mpr c6; subst c6; rw [if_neg (show ¬ (false = true) by decide)] at H; have H' := mA H; clear H; have hcz10_0 := sqZ0 BK40; have hcz10_1 := sqZ1 BK40; have hfz10_0 := blk_frozen BK40.out 0; have hfz10_1 := blk_frozen BK40.out 1; go_wp2_with (first | (go_at_call 35; (with_reducible refine (spec_l00In.calls a0_0 1 1000 true _ A3.out).mono ?_); rintro e w' ⟨rfl, ⟨nd, rfl⟩⟩; (try first | exact ⟨rfl, _, World.drewN_drewN _ _ _⟩ | exact ⟨rfl, _, Eq.trans (World.drewN_drewN _ _ _) (congrArg (World.drewN _) (Nat.add_assoc _ _ _))⟩)) | (go_at_call 36; (with_reducible refine (spec_l05Side.calls (l0_1.length : Int) false _ A5.out).mono ?_); rintro e w' ⟨rfl, ⟨nd, rfl⟩⟩; (try first | exact ⟨rfl, _, World.drewN_drewN _ _ _⟩ | exact ⟨rfl, _, Eq.trans (World.drewN_drewN _ _ _) (congrArg (World.drewN _) (Nat.add_assoc _ _ _))⟩)))
   repeat (go_quiet (first | (go_at_call 35; (with_reducible refine (spec_l00In.calls a0_0 1 1000 true _ A3.out).mono ?_); rintro e w' ⟨rfl, ⟨nd, rfl⟩⟩; (try first | exact ⟨rfl, _, World.drewN_drewN _ _ _⟩ | exact ⟨rfl, _, Eq.trans (World.drewN_drewN _ _ _) (congrArg (World.drewN _) (Nat.add_assoc _ _ _))⟩)) | (go_at_call 36; (with_reducible refine (spec_l05Side.calls (l0_1.length : Int) false _ A5.out).mono ?_); rintro e w' ⟨rfl, ⟨nd, rfl⟩⟩; (try first | exact ⟨rfl, _, World.drewN_drewN _ _ _⟩ | exact ⟨rfl, _, Eq.trans (World.drewN_drewN _ _ _) (congrArg (World.drewN _) (Nat.add_assoc _ _ _))⟩))); try go_wp2_with (first | (go_at_call 35; (with_reducible refine (spec_l00In.calls a0_0 1 1000 true _ A3.out).mono ?_); rintro e w' ⟨rfl, ⟨nd, rfl⟩⟩; (try first | exact ⟨rfl, _, World.drewN_drewN _ _ _⟩ | exact ⟨rfl, _, Eq.trans (World.drewN_drewN _ _ _) (congrArg (World.drewN _) (Nat.add_assoc _ _ _))⟩)) | (go_at_call 36; (with_reducible refine (spec_l05Side.calls (l0_1.length : Int) false _ A5.out).mono ?_); rintro e w' ⟨rfl, ⟨nd, rfl⟩⟩; (try first | exact ⟨rfl, _, World.drewN_drewN _ _ _⟩ | exact ⟨rfl, _, Eq.trans (World.drewN_drewN _ _ _) (congrArg (World.drewN _) (Nat.add_assoc _ _ _))⟩))))
   go_meet
   case rel => exact ⟨_, (true), zq4, H', ⟨zq21⟩, ⟨zq0 BK40⟩, ⟨zq1⟩⟩
  replace c4 := Bool.eq_false_iff.mpr c4; subst c4; rw [if_neg (show ¬ (false = true) by decide)] at H; have H' := mA H; clear H; have hcz11_0 := sqZ0 BK40; have hcz11_1 := sqZ1 BK40; have hfz11_0 := blk_frozen BK40.out 0; have hfz11_1 := blk_frozen BK40.out 1; go_wp2_with (first | (go_at_call 35; (with_reducible refine (spec_l00In.calls a0_0 1 1000 false _ A3.out).mono ?_); rintro e w' ⟨rfl, ⟨nd, rfl⟩⟩; (try first | exact ⟨rfl, _, World.drewN_drewN _ _ _⟩ | exact ⟨rfl, _, Eq.trans (World.drewN_drewN _ _ _) (congrArg (World.drewN _) (Nat.add_assoc _ _ _))⟩)))
  repeat (go_quiet (first | (go_at_call 35; (with_reducible refine (spec_l00In.calls a0_0 1 1000 false _ A3.out).mono ?_); rintro e w' ⟨rfl, ⟨nd, rfl⟩⟩; (try first | exact ⟨rfl, _, World.drewN_drewN _ _ _⟩ | exact ⟨rfl, _, Eq.trans (World.drewN_drewN _ _ _) (congrArg (World.drewN _) (Nat.add_assoc _ _ _))⟩))); try go_wp2_with (first | (go_at_call 35; (with_reducible refine (spec_l00In.calls a0_0 1 1000 false _ A3.out).mono ?_); rintro e w' ⟨rfl, ⟨nd, rfl⟩⟩; (try first | exact ⟨rfl, _, World.drewN_drewN _ _ _⟩ | exact ⟨rfl, _, Eq.trans (World.drewN_drewN _ _ _) (congrArg (World.drewN _) (Nat.add_assoc _ _ _))⟩))))
  go_meet
  case rel => exact ⟨_, (true), zq4, H', ⟨zq21⟩, ⟨zq0 BK40⟩, ⟨zq1⟩⟩
 case rest =>
  clear HC2; (try clear c1); (try clear p1); (try clear q1); (try clear hx1); (try clear qi1); (try clear p2); (try clear c4); (try clear c6); (try clear c7); (try clear c7b0); (try clear c7b1); (try clear c10); (try clear p10); (try clear q10); (try clear hx10); (try clear qi10); (try clear hcz10_0); (try clear hcz10_1); (try clear hcz11_0); (try clear hcz11_1); (try clear hcz9_0); (try clear hcz9_1); (try clear hfz10_0); (try clear hfz10_1); (try clear hfz11_0); (try clear hfz11_1); (try clear hfz9_0); (try clear hfz9_1); (try clear hx107_0); (try clear p107); (try clear q107); obtain ⟨kq, x30_1, rfl, HA, HJ1, BK40, HB⟩ := hcut
  cases kq with
  | zero => exact absurd HA.out (by simp [spec_l05Is.j0])
  | succ kj1 =>
   have H := HA.out; clear HA; simp only [spec_l05Is.j0] at H; by_cases c12 : x30_1 = true
   ·subst c12; rw [if_pos rfl] at H; obtain rfl := Option.some.inj H; go_wp2
    repeat (go_quiet (fail); try go_wp2)
    go_ret; exact ⟨zq6, zq1⟩
   replace c12 := Bool.eq_false_iff.mpr c12; subst c12; rw [if_neg (show ¬ (false = true) by decide)] at H; have H' := mA H; clear H; go_wp2
   repeat (go_quiet (fail); try go_wp2)
   go_loopg [3] kj1 (fun kq v3 w' => ∃ (x3_2 : Int), v3 = .int .i64 x3_2 ∧ Aside0 (spec_l05Is.l0 kq x3_2 a0_0 l0_1 = some r) ∧ Aside0 (kq ≤ kj1) ∧ Aside0 (w'.heap[gv0_0_]? = some (.cells #[.int .i64 a0_0, (.slice A0_1 l0_1.length c0_1)] 28 (0, 0))) ∧ Aside0 (Below w.heap.size w w'))
   case atStart => exact ⟨(0), zq4, H', ⟨Nat.le_refl _⟩, ⟨zq0 BK40⟩, ⟨zq1⟩⟩
   case round =>
    clear H'; (try clear c1); (try clear p1); (try clear q1); (try clear hx1); (try clear qi1); (try clear p2); (try clear c4); (try clear c6); (try clear c7); (try clear c7b0); (try clear c7b1); (try clear c10); (try clear p10); (try clear q10); (try clear hx10); (try clear qi10); (try clear c12); (try clear hcz10_0); (try clear hcz10_1); (try clear hcz11_0); (try clear hcz11_1); (try clear hcz9_0); (try clear hcz9_1); (try clear hfz10_0); (try clear hfz10_1); (try clear hfz11_0); (try clear hfz11_1); (try clear hfz9_0); (try clear hfz9_1); (try clear hx107_0); (try clear p1); (try clear p10); (try clear p107); (try clear p2); (try clear q1); (try clear q10); (try clear q107); obtain ⟨x3_2, rfl, HA, HK2, BK40, HB⟩ := hrel
    cases gk with
    | zero => exact absurd HA.out (by simp [spec_l05Is.l0])
    | succ k2 =>
     have H := HA.out; clear HA; simp only [spec_l05Is.l0] at H; refine sqC (x3_2 < (l0_1.length : Int)) (fun c13 => ?_) (fun c13 => ?_)
     ·rw [if_neg c13] at H; replace c13 := decide_eq_false c13; obtain rfl := Option.some.inj H; have hcz28_0 := sqZ0 BK40; have hcz28_1 := sqZ1 BK40; have hfz28_0 := blk_frozen BK40.out 0; have hfz28_1 := blk_frozen BK40.out 1; go_wp2
      repeat (go_quiet (fail); try go_wp2)
      go_ret; exact ⟨zq6, zq1⟩
     rw [if_pos c13] at H; replace c13 := decide_eq_true c13; obtain ⟨c14, H⟩ := sqI H; replace c14 := decide_eq_true c14; obtain ⟨c15, H⟩ := sqI H; have c15b0 := decide_eq_true c15; have c15b1 : decide (0 < l0_1.length) = true := decide_eq_true (by omega); clear c15; refine sqC (((rd_L1 l0_1 x3_2).length : Int) = ((rd_L1 l0_1 0).length : Int)) (fun c16 => ?_) (fun c16 => ?_)
     ·rw [if_neg c16] at H; have c16b0 : (((rd_L1 l0_1 x3_2).length : Int) == ((rd_L1 l0_1 0).length : Int)) = false := beq_eq_false_iff_ne.mpr c16; have c16b1 : (((rd_L1 l0_1 x3_2).length : Int) != ((rd_L1 l0_1 0).length : Int)) = true := bne_iff_ne.mpr c16
      have c16b2 : ((rd_L1 l0_1 x3_2).length == (rd_L1 l0_1 0).length) = false := by first | simpa using c16 | (simp at c16 ⊢; omega)
      obtain rfl := Option.some.inj H; have hcz27_0 := sqZ0 BK40; have hcz27_1 := sqZ1 BK40; have hfz27_0 := blk_frozen BK40.out 0; have hfz27_1 := blk_frozen BK40.out 1; have p109 : 0 ≤ (x3_2 : Int) := sqd; have q109 : x3_2 < (l0_1.length : Int) := sqd; obtain ⟨ad109, A109_0, c109_0, e109, hx109_0, hl109_0, hi109_0⟩ := at_L1 HR0_1.out x3_2 p109 q109
      cases e109
      replace hx109_0 := sqh HB hx109_0; have HR109_0 := mA hi109_0; have HC109_0 := mA hl109_0; clear hi109_0 hl109_0; replace p109 := eq_true p109; replace q109 := eq_true q109; have p110 : 0 ≤ (0 : Int) := (by omega); have q110 : 0 < (l0_1.length : Int) := sqd; obtain ⟨ad110, A110_0, c110_0, e110, hx110_0, hl110_0, hi110_0⟩ := at_L1 HR0_1.out 0 p110 q110; obtain rfl : ad109 = ad110 := (by injection e110); have qi110 : (0 < l0_1.length) = True := eq_true (by omega); (try rw [show ((0 : Int)).toNat = 0 from rfl] at hx110_0); (try rw [Addr.add_zero'] at hx110_0); replace hx110_0 := sqh HB hx110_0; have HR110_0 := mA hi110_0; have HC110_0 := mA hl110_0; clear hi110_0 hl110_0; replace p110 := eq_true p110; replace q110 := eq_true q110; go_wp2
      repeat (go_quiet (fail); try go_wp2)
      go_ret; exact ⟨zq6, zq1⟩
     rw [if_pos c16] at H; have c16b0 : (((rd_L1 l0_1 x3_2).length : Int) == ((rd_L1 l0_1 0).length : Int)) = true := beq_iff_eq.mpr c16; have c16b1 : (((rd_L1 l0_1 x3_2).length : Int) != ((rd_L1 l0_1 0).length : Int)) = false := bne_eq_false_iff_eq.mpr c16
     have c16b2 : ((rd_L1 l0_1 x3_2).length == (rd_L1 l0_1 0).length) = true := by first | simpa using c16 | (simp at c16 ⊢; omega)
     clear c16; have H' := mA H; clear H; have hcz17_0 := sqZ0 BK40; have hcz17_1 := sqZ1 BK40; have hfz17_0 := blk_frozen BK40.out 0; have hfz17_1 := blk_frozen BK40.out 1; have p109 : 0 ≤ (x3_2 : Int) := sqd; have q109 : x3_2 < (l0_1.length : Int) := sqd; obtain ⟨ad109, A109_0, c109_0, e109, hx109_0, hl109_0, hi109_0⟩ := at_L1 HR0_1.out x3_2 p109 q109
     cases e109
     replace hx109_0 := sqh HB hx109_0; have HR109_0 := mA hi109_0; have HC109_0 := mA hl109_0; clear hi109_0 hl109_0; replace p109 := eq_true p109; replace q109 := eq_true q109; have p110 : 0 ≤ (0 : Int) := (by omega); have q110 : 0 < (l0_1.length : Int) := sqd; obtain ⟨ad110, A110_0, c110_0, e110, hx110_0, hl110_0, hi110_0⟩ := at_L1 HR0_1.out 0 p110 q110; obtain rfl : ad109 = ad110 := (by injection e110); have qi110 : (0 < l0_1.length) = True := eq_true (by omega); (try rw [show ((0 : Int)).toNat = 0 from rfl] at hx110_0); (try rw [Addr.add_zero'] at hx110_0); replace hx110_0 := sqh HB hx110_0; have HR110_0 := mA hi110_0; have HC110_0 := mA hl110_0; clear hi110_0 hl110_0; replace p110 := eq_true p110; replace q110 := eq_true q110; go_wp2
     repeat (go_quiet (fail); try go_wp2)
     go_loopg [4] k2 (fun kq v4 w' => ∃ (x4_3 : Int), v4 = .int .i64 x4_3 ∧ Aside0 (spec_l05Is.l1 kq x3_2 x4_3 a0_0 l0_1 = some r) ∧ Aside0 (kq ≤ k2) ∧ Aside0 (w'.heap[gv0_0_]? = some (.cells #[.int .i64 a0_0, (.slice (some ad109) l0_1.length c0_1)] 28 (0, 0))) ∧ Aside0 (Below w.heap.size w w'))
     case atStart => exact ⟨(0), zq4, H', ⟨Nat.le_refl _⟩, ⟨zq0 BK40⟩, ⟨zq1⟩⟩
     case round =>
      clear H'; (try clear c1); (try clear p1); (try clear q1); (try clear hx1); (try clear qi1); (try clear p2); (try clear c4); (try clear c6); (try clear c7); (try clear c7b0); (try clear c7b1); (try clear c10); (try clear p10); (try clear q10); (try clear hx10); (try clear qi10); (try clear c11); (try clear p11); (try clear q11); (try clear hx11); (try clear qi11); (try clear c12); (try clear c13); (try clear c13b0); (try clear c14); (try clear c14b0); (try clear c15); (try clear c15b0); (try clear c15b1); (try clear c16); (try clear c16b0); (try clear c16b1); (try clear c16b2); (try clear c17); (try clear hcz10_0); (try clear hcz10_1); (try clear hcz11_0); (try clear hcz11_1); (try clear hcz17_0); (try clear hcz17_1); (try clear hcz9_0); (try clear hcz9_1); (try clear hfz10_0); (try clear hfz10_1); (try clear hfz11_0); (try clear hfz11_1); (try clear hfz17_0); (try clear hfz17_1); (try clear hfz9_0); (try clear hfz9_1); (try clear hx107_0); (try clear hx109_0); (try clear hx110_0); (try clear p1); (try clear p10); (try clear p107); (try clear p109); (try clear p110); (try clear p2); (try clear q1); (try clear q10); (try clear q107); (try clear q109); (try clear q110); obtain ⟨x4_3, rfl, HA, HK3, BK40, HB⟩ := hrel
      cases gk with
      | zero => exact absurd HA.out (by simp [spec_l05Is.l1])
      | succ k3 =>
       have H := HA.out; clear HA; simp only [spec_l05Is.l1] at H; obtain ⟨c18, H⟩ := sqI H; replace c18 := decide_eq_true c18; obtain ⟨c19, H⟩ := sqI H; replace c19 := decide_eq_true c19; refine sqC (x4_3 < ((rd_L1 l0_1 x3_2).length : Int)) (fun c20 => ?_) (fun c20 => ?_)
       ·rw [if_neg c20] at H; replace c20 := decide_eq_false c20; have H' := mA H; clear H; have hcz26_0 := sqZ0 BK40; have hcz26_1 := sqZ1 BK40; have hfz26_0 := blk_frozen BK40.out 0; have hfz26_1 := blk_frozen BK40.out 1; have p111 : 0 ≤ (x3_2 : Int) := sqd; have q111 : x3_2 < (l0_1.length : Int) := sqd; obtain ⟨ad111, A111_0, c111_0, e111, hx111_0, hl111_0, hi111_0⟩ := at_L1 HR0_1.out x3_2 p111 q111; obtain rfl : ad109 = ad111 := (by injection e111); replace hx111_0 := sqh HB hx111_0; have HR111_0 := mA hi111_0; have HC111_0 := mA hl111_0; clear hi111_0 hl111_0; replace p111 := eq_true p111; replace q111 := eq_true q111; go_wp2
        repeat (go_quiet (fail); try go_wp2)
        go_roundg k3
        case measure => have := HJ1.out; have := HK2.out; have := HK3.out; omega
        case rel => exact ⟨(wrap64 (x3_2 + 1)), zq4, H', ⟨zq22 HJ1 HK2 HK3⟩, ⟨zq0 BK40⟩, ⟨zq1⟩⟩
       rw [if_pos c20] at H; replace c20 := decide_eq_true c20; obtain ⟨c21, H⟩ := sqI H; replace c21 := decide_eq_true c21; obtain ⟨t114, A22, H⟩ := sqB H; refine sqC (t114 = true) (fun c23 => ?_) (fun c23 => ?_)
       ·replace c23 := Bool.eq_false_iff.mpr c23; subst c23; rw [if_neg (show ¬ (false = true) by decide)] at H; obtain rfl := Option.some.inj H; have hcz25_0 := sqZ0 BK40; have hcz25_1 := sqZ1 BK40; have hfz25_0 := blk_frozen BK40.out 0; have hfz25_1 := blk_frozen BK40.out 1; have p111 : 0 ≤ (x3_2 : Int) := sqd; have q111 : x3_2 < (l0_1.length : Int) := sqd; obtain ⟨ad111, A111_0, c111_0, e111, hx111_0, hl111_0, hi111_0⟩ := at_L1 HR0_1.out x3_2 p111 q111; obtain rfl : ad109 = ad111 := (by injection e111); replace hx111_0 := sqh HB hx111_0; have HR111_0 := mA hi111_0; have HC111_0 := mA hl111_0; clear hi111_0 hl111_0; replace p111 := eq_true p111; replace q111 := eq_true q111; have p112 : 0 ≤ (x3_2 : Int) := sqd; have q112 : x3_2 < (l0_1.length : Int) := sqd; obtain ⟨ad112, A112_0, c112_0, e112, hx112_0, hl112_0, hi112_0⟩ := at_L1 HR0_1.out x3_2 p112 q112; obtain rfl : ad109 = ad112 := (by injection e112); replace hx112_0 := sqh HB hx112_0; have HR112_0 := mA hi112_0; have HC112_0 := mA hl112_0; clear hi112_0 hl112_0; replace p112 := eq_true p112; replace q112 := eq_true q112; have ea_ := Option.some.inj (hx111_0.symm.trans hx112_0)
        injection ea_ with ea_ en_ ec_
        subst ea_; subst ec_; clear en_; have p113 : 0 ≤ (x4_3 : Int) := sqd; have q113 : x4_3 < ((rd_L1 l0_1 x3_2).length : Int) := sqd; obtain ⟨ad113, e113, hx113_0⟩ := Kd.at_int HR112_0.out x4_3 p113 q113
        cases e113
        replace hx113_0 := sqh HB hx113_0; replace p113 := eq_true p113; replace q113 := eq_true q113; go_wp2_with (first | (go_at_call 35; (with_reducible refine (spec_l00In.calls (rd (rd_L1 l0_1 x3_2) x4_3) 0 100000 false _ A22.out).mono ?_); rintro e w' ⟨rfl, ⟨nd, rfl⟩⟩; (try first | exact ⟨rfl, _, World.drewN_drewN _ _ _⟩ | exact ⟨rfl, _, Eq.trans (World.drewN_drewN _ _ _) (congrArg (World.drewN _) (Nat.add_assoc _ _ _))⟩)))
        repeat (go_quiet (first | (go_at_call 35; (with_reducible refine (spec_l00In.calls (rd (rd_L1 l0_1 x3_2) x4_3) 0 100000 false _ A22.out).mono ?_); rintro e w' ⟨rfl, ⟨nd, rfl⟩⟩; (try first | exact ⟨rfl, _, World.drewN_drewN _ _ _⟩ | exact ⟨rfl, _, Eq.trans (World.drewN_drewN _ _ _) (congrArg (World.drewN _) (Nat.add_assoc _ _ _))⟩))); try go_wp2_with (first | (go_at_call 35; (with_reducible refine (spec_l00In.calls (rd (rd_L1 l0_1 x3_2) x4_3) 0 100000 false _ A22.out).mono ?_); rintro e w' ⟨rfl, ⟨nd, rfl⟩⟩; (try first | exact ⟨rfl, _, World.drewN_drewN _ _ _⟩ | exact ⟨rfl, _, Eq.trans (World.drewN_drewN _ _ _) (congrArg (World.drewN _) (Nat.add_assoc _ _ _))⟩))))
        go_ret; exact ⟨zq6, zq1⟩
       subst c23; rw [if_pos rfl] at H; have H' := mA H; clear H; have hcz24_0 := sqZ0 BK40; have hcz24_1 := sqZ1 BK40; have hfz24_0 := blk_frozen BK40.out 0; have hfz24_1 := blk_frozen BK40.out 1; have p111 : 0 ≤ (x3_2 : Int) := sqd; have q111 : x3_2 < (l0_1.length : Int) := sqd; obtain ⟨ad111, A111_0, c111_0, e111, hx111_0, hl111_0, hi111_0⟩ := at_L1 HR0_1.out x3_2 p111 q111; obtain rfl : ad109 = ad111 := (by injection e111); replace hx111_0 := sqh HB hx111_0; have HR111_0 := mA hi111_0; have HC111_0 := mA hl111_0; clear hi111_0 hl111_0; replace p111 := eq_true p111; replace q111 := eq_true q111; have p112 : 0 ≤ (x3_2 : Int) := sqd; have q112 : x3_2 < (l0_1.length : Int) := sqd; obtain ⟨ad112, A112_0, c112_0, e112, hx112_0, hl112_0, hi112_0⟩ := at_L1 HR0_1.out x3_2 p112 q112; obtain rfl : ad109 = ad112 := (by injection e112); replace hx112_0 := sqh HB hx112_0; have HR112_0 := mA hi112_0; have HC112_0 := mA hl112_0; clear hi112_0 hl112_0; replace p112 := eq_true p112; replace q112 := eq_true q112; have ea_ := Option.some.inj (hx111_0.symm.trans hx112_0)
       injection ea_ with ea_ en_ ec_
       subst ea_; subst ec_; clear en_; have p113 : 0 ≤ (x4_3 : Int) := sqd; have q113 : x4_3 < ((rd_L1 l0_1 x3_2).length : Int) := sqd; obtain ⟨ad113, e113, hx113_0⟩ := Kd.at_int HR112_0.out x4_3 p113 q113
       cases e113
       replace hx113_0 := sqh HB hx113_0; replace p113 := eq_true p113; replace q113 := eq_true q113; go_wp2_with (first | (go_at_call 35; (with_reducible refine (spec_l00In.calls (rd (rd_L1 l0_1 x3_2) x4_3) 0 100000 true _ A22.out).mono ?_); rintro e w' ⟨rfl, ⟨nd, rfl⟩⟩; (try first | exact ⟨rfl, _, World.drewN_drewN _ _ _⟩ | exact ⟨rfl, _, Eq.trans (World.drewN_drewN _ _ _) (congrArg (World.drewN _) (Nat.add_assoc _ _ _))⟩)))
       repeat (go_quiet (first | (go_at_call 35; (with_reducible refine (spec_l00In.calls (rd (rd_L1 l0_1 x3_2) x4_3) 0 100000 true _ A22.out).mono ?_); rintro e w' ⟨rfl, ⟨nd, rfl⟩⟩; (try first | exact ⟨rfl, _, World.drewN_drewN _ _ _⟩ | exact ⟨rfl, _, Eq.trans (World.drewN_drewN _ _ _) (congrArg (World.drewN _) (Nat.add_assoc _ _ _))⟩))); try go_wp2_with (first | (go_at_call 35; (with_reducible refine (spec_l00In.calls (rd (rd_L1 l0_1 x3_2) x4_3) 0 100000 true _ A22.out).mono ?_); rintro e w' ⟨rfl, ⟨nd, rfl⟩⟩; (try first | exact ⟨rfl, _, World.drewN_drewN _ _ _⟩ | exact ⟨rfl, _, Eq.trans (World.drewN_drewN _ _ _) (congrArg (World.drewN _) (Nat.add_assoc _ _ _))⟩))))
       go_roundg k3
       case measure => have := HJ1.out; have := HK2.out; have := HK3.out; omega
       case rel => exact ⟨(wrap64 (x4_3 + 1)), zq4, H', ⟨zq22 HJ1 HK2 HK3⟩, ⟨zq0 BK40⟩, ⟨zq1⟩⟩

end Go.Proofs.Ytdcglkdgepdnpaa.PFnExactCountTables
