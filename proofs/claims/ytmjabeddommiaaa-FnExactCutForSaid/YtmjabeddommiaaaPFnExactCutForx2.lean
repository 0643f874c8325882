/- Written by this session's program (wip/tool/xprint.py) over the kit's printer. -/
import Derived.Test.YtmjabeddommiaaaPFnExactCutForx0
import Derived.Test.YtmjabeddommiaaaPFnExactCutForx1
namespace Go.Proofs.Ytmjabeddommiaaa.PFnExactCutFor
open Go.RowKit Go.Proofs.YtmjabeddommiaaaW.PrintWords Go.Proofs.YtmjabeddommiaaaW.PrintLast Go.Proofs.YtmjabeddommiaaaW.PrintMore
attribute [local go_sem] max2_int min2_int max_two min_two max_three min_three max_four min_four   -- for this text's walks alone
set_option linter.unusedVariables false
set_option linter.unusedSimpArgs false

/-! ### laws_eqInt64SS: function 28 -/
def laws_eqInt64SS.l0 : Nat → List (List Int) → List (List Int) → Int → Option (Bool)
  | 0, _, _, _ => none
  | k + 1, x0, x1, x5 => if x5 < (x0.length : Int) then (if 0 ≤ x5 then (if x5 < (x1.length : Int) then ((laws_eqInt64S.f k (rd_L1 x0 x5) (rd_L1 x1 x5)).bind fun t128 => (if t128 = true then (laws_eqInt64SS.l0 k x0 x1 (wrap64 (x5 + 1))) else (some false))) else (none)) else (none)) else (some true)
def laws_eqInt64SS.f (k : Nat) (l0 : List (List Int)) (l1 : List (List Int)) : Option (Bool) := if (l0.length : Int) = (l1.length : Int) then (laws_eqInt64SS.l0 k l0 l1 0) else (some false)
theorem laws_eqInt64SS.mono_l : ∀ k, (∀ y0 y1 y2, LeO (laws_eqInt64SS.l0 k y0 y1 y2) (laws_eqInt64SS.l0 (k + 1) y0 y1 y2))
  | 0 => fun _ _ _ r h => by simp [laws_eqInt64SS.l0] at h
  | k + 1 => by
   have ih0 := laws_eqInt64SS.mono_l k
   intros
   unfold laws_eqInt64SS.l0
   all_goals repeat' first | (with_reducible first | apply ih0 | apply laws_eqInt64S.mono | exact LeO.refl _ | exact LeO.none _ | refine LeO.ite ?_ ?_ | refine LeO.bind ?_ (fun _ => ?_)) | apply ih0 | apply laws_eqInt64S.mono | exact LeO.none _ | refine LeO.ite ?_ ?_ | refine LeO.bind ?_ (fun _ => ?_)
theorem laws_eqInt64SS.mono : ∀ a0 a1 k, LeO (laws_eqInt64SS.f k a0 a1) (laws_eqInt64SS.f (k + 1) a0 a1) := by
  intro a0 a1 k
  have ih0 := laws_eqInt64SS.mono_l k
  unfold laws_eqInt64SS.f
  repeat' first | (with_reducible first | apply ih0 | apply laws_eqInt64S.mono | exact LeO.refl _ | exact LeO.none _ | refine LeO.ite ?_ ?_ | refine LeO.bind ?_ (fun _ => ?_)) | apply ih0 | apply laws_eqInt64S.mono | exact LeO.none _ | refine LeO.ite ?_ ?_ | refine LeO.bind ?_ (fun _ => ?_)
def laws_eqInt64SS.T6 : Bool × List (List Nat × List Nat) := (true, [([], []), ([], []), ([0, 1], [0, 1]), ([2], [2]), ([], []), ([], []), ([4, 5], [4, 5]), ([6], [6]), ([3, 7], [3, 7]), ([8], [8])])
def laws_eqInt64SS.B6 : List Nat := [0, 0, 3, 7, 0, 0, 48, 112, 255, 511]
theorem laws_eqInt64SS.tab6 : rtab .any (opsOf Try.f28 6) = laws_eqInt64SS.T6 := by kernel_rfl
theorem laws_eqInt64SS.bits6 : waitsOk laws_eqInt64SS.T6.2 laws_eqInt64SS.B6 = true := by kernel_rfl
set_option maxHeartbeats 8000000 in
set_option maxRecDepth 100000 in
theorem laws_eqInt64SS.calls (k : Nat) (A0 : Option Addr) (c0 : Nat) (l0 : List (List Int)) (A1 : Option Addr) (c1 : Nat) (l1 : List (List Int)) (r : Bool) (w : World) (hr0 : Kd.C (Kd.slice 2 (Kd.int .i64)) w A0 l0.length l0) (hc0 : l0.length ≤ c0) (hr1 : Kd.C (Kd.slice 2 (Kd.int .i64)) w A1 l1.length l1) (hc1 : l1.length ≤ c1) (h : laws_eqInt64SS.f k l0 l1 = some r) :
    Calls Try.prog 28 #[.slice A0 l0.length c0, .slice A1 l1.length c1] w fun e w' => e = .returned (.bool r) ∧ Below w.heap.size w w' := by
 have HR0 := mA hr0; have HC0 := mA hc0; clear hr0 hc0; have HR1 := mA hr1; have HC1 := mA hc1; clear hr1 hc1; have HB := mA (Below.refl w.heap.size w); have H : (if (l0.length : Int) = (l1.length : Int) then (laws_eqInt64SS.l0 k l0 l1 0) else (some false)) = some r := h; clear h; refine sqC ((l0.length : Int) = (l1.length : Int)) (fun c3 => ?_) (fun c3 => ?_)
 ·rw [if_neg c3] at H; have c3b0 : ((l0.length : Int) == (l1.length : Int)) = false := beq_eq_false_iff_ne.mpr c3; have c3b1 : ((l0.length : Int) != (l1.length : Int)) = true := bne_iff_ne.mpr c3
  have c3b2 : (l0.length == l1.length) = false := by first | simpa using c3 | (simp at c3 ⊢; omega)
  obtain rfl := Option.some.inj H; go_enter Try.func28, Try.ntmps28; go_wp2; go_ret; exact ⟨zq6, zq5⟩
 rw [if_pos c3] at H; have c3b0 : ((l0.length : Int) == (l1.length : Int)) = true := beq_iff_eq.mpr c3; have c3b1 : ((l0.length : Int) != (l1.length : Int)) = false := bne_eq_false_iff_eq.mpr c3
 have c3b2 : (l0.length == l1.length) = true := by first | simpa using c3 | (simp at c3 ⊢; omega)
 clear c3; have H' := mA H; clear H; go_enter Try.func28, Try.ntmps28; go_wp2; go_loopg [5] k (fun kq v5 w' => ∃ (x5_1 : Int), v5 = .int .i64 x5_1 ∧ Aside0 (laws_eqInt64SS.l0 kq l0 l1 x5_1 = some r) ∧ Aside0 (kq ≤ k) ∧ Aside0 (Below w.heap.size w w'))
 case atStart => exact ⟨(0), zq3, H', ⟨Nat.le_refl _⟩, ⟨zq5⟩⟩
 case round =>
  clear H'; (try clear c1); (try clear c2); (try clear p2); (try clear c3); (try clear c3b0); (try clear c3b1); (try clear c3b2); obtain ⟨x5_1, rfl, HA, HK1, HB⟩ := hrel
  cases gk with
  | zero => exact absurd HA.out (by simp [laws_eqInt64SS.l0])
  | succ k1 =>
   have H := HA.out; clear HA; simp only [laws_eqInt64SS.l0] at H; refine sqC (x5_1 < (l0.length : Int)) (fun c4 => ?_) (fun c4 => ?_)
   ·rw [if_neg c4] at H; have c4b0 : decide (x5_1 < (l0.length : Int)) = false := decide_eq_false c4; clear c4; obtain rfl := Option.some.inj H; go_wp2; go_ret; exact ⟨zq6, zq5⟩
   rw [if_pos c4] at H; have c4b0 : decide (x5_1 < (l0.length : Int)) = true := decide_eq_true c4; clear c4; obtain ⟨c5, H⟩ := sqI H; replace c5 := decide_eq_true c5; obtain ⟨c6, H⟩ := sqI H; have c6b0 : decide (x5_1 < (l1.length : Int)) = true := decide_eq_true c6; clear c6; obtain ⟨t128, A7, H⟩ := sqB H; refine sqC (t128 = true) (fun c8 => ?_) (fun c8 => ?_)
   ·replace c8 := Bool.eq_false_iff.mpr c8; subst c8; rw [if_neg (show ¬ (false = true) by decide)] at H; obtain rfl := Option.some.inj H; (try go_wp2); replace HB := mA (below_drew1 HB.out); have p126 : 0 ≤ (x5_1 : Int) := sqd; have q126 : x5_1 < (l0.length : Int) := sqd; obtain ⟨ad126, A126_0, c126_0, e126, hx126_0, hl126_0, hi126_0⟩ := at_L1 HR0.out x5_1 p126 q126; have hw126_0 := hx126_0
    cases e126
    replace hx126_0 := sqh HB hx126_0; have HR126_0 := mA hi126_0; have HC126_0 := mA hl126_0; clear hi126_0 hl126_0; replace p126 := eq_true p126; replace q126 := eq_true q126; have p127 : 0 ≤ (x5_1 : Int) := sqd; have q127 : x5_1 < (l1.length : Int) := sqd; obtain ⟨ad127, A127_0, c127_0, e127, hx127_0, hl127_0, hi127_0⟩ := at_L1 HR1.out x5_1 p127 q127; have hw127_0 := hx127_0
    cases e127
    replace hx127_0 := sqh HB hx127_0; have HR127_0 := mA hi127_0; have HC127_0 := mA hl127_0; clear hi127_0 hl127_0; replace p127 := eq_true p127; replace q127 := eq_true q127; refine start_ (n := 10) (S := fun w' => w'.cell? (ad126.add (x5_1).toNat) = some (.slice A126_0 (rd_L1 l0 x5_1).length c126_0) ∧ w'.cell? (ad127.add (x5_1).toNat) = some (.slice A127_0 (rd_L1 l1 x5_1).length c127_0)) (ds := []) #[false, false, false, false, false, false, false, false, false, false] (by kernel_rfl) rfl rfl ⟨((HB.out.cell (World.block_lt_of_cell? w _ hw126_0)).trans hw126_0), ((HB.out.cell (World.block_lt_of_cell? w _ hw127_0)).trans hw127_0)⟩ (fun hHeld => ?_); refine with_tabW laws_eqInt64SS.tab6 laws_eqInt64SS.bits6 (fun HT_ HW_ => ?_); generalize wr.drew = w10 at HB HR126_0 HR127_0 hx126_0 hx127_0 hHeld ⊢; refine sqr0 0 (some 17) ?_; refine sqr0 1 (some 18) ?_; refine sqr0 2 (some 19) ?_; refine sqr0 4 (some 21) ?_; refine sqr0 5 (some 22) ?_; refine sqr0 6 (some 23) ?_; refine sqr1 3 (some 20) ?_; refine sqr1 7 (some 24) ?_; refine sqr2 8 (some 25) (fun K hK => ?_); refine goes_ Try.func17 (by kernel_rfl) rfl #[.slice A126_0 (rd_L1 l0 x5_1).length c126_0, .slice A127_0 (rd_L1 l1 x5_1).length c127_0] (by rfl) rfl rfl zq11 ?_; (with_reducible refine (laws_eqInt64S.calls k1 _ _ (rd_L1 l0 x5_1) _ _ (rd_L1 l1 x5_1) false _ ?s1 ?s2 ?s3 ?s4 A7.out).mono ?_); (case s1 => repeat (first | exact (Kd.C_below HR126_0.out HB.out) | (with_reducible refine Kd.C_alloc ?_ _) | (with_reducible refine Kd.C_drewN ?_ _) | (with_reducible refine Kd.C_drew ?_))); (case s2 => exact HC126_0.out); (case s3 => repeat (first | exact (Kd.C_below HR127_0.out HB.out) | (with_reducible refine Kd.C_alloc ?_ _) | (with_reducible refine Kd.C_drewN ?_ _) | (with_reducible refine Kd.C_drew ?_))); (case s4 => exact HC127_0.out); rintro e w' ⟨rfl, ⟨nd, rfl⟩⟩; refine ⟨_, rfl, ?_⟩; refine hK.out _ _ ⟨((HB.out.cell (World.block_lt_of_cell? w _ hw126_0)).trans hw126_0), ((HB.out.cell (World.block_lt_of_cell? w _ hw127_0)).trans hw127_0)⟩ (fun hHeld => ?_); clear hK K; refine sqr3 ?_; refine sqr0 9 (some 26) ?_; refine done_ (done_of HT_.out (by kernel_rfl)) ?_; (try go_wp2); go_ret; exact ⟨zq6, zq5⟩
   subst c8; rw [if_pos rfl] at H; have H' := mA H; clear H; (try go_wp2); replace HB := mA (below_drew1 HB.out); have p126 : 0 ≤ (x5_1 : Int) := sqd; have q126 : x5_1 < (l0.length : Int) := sqd; obtain ⟨ad126, A126_0, c126_0, e126, hx126_0, hl126_0, hi126_0⟩ := at_L1 HR0.out x5_1 p126 q126; have hw126_0 := hx126_0
   cases e126
   replace hx126_0 := sqh HB hx126_0; have HR126_0 := mA hi126_0; have HC126_0 := mA hl126_0; clear hi126_0 hl126_0; replace p126 := eq_true p126; replace q126 := eq_true q126; have p127 : 0 ≤ (x5_1 : Int) := sqd; have q127 : x5_1 < (l1.length : Int) := sqd; obtain ⟨ad127, A127_0, c127_0, e127, hx127_0, hl127_0, hi127_0⟩ := at_L1 HR1.out x5_1 p127 q127; have hw127_0 := hx127_0
   cases e127
   replace hx127_0 := sqh HB hx127_0; have HR127_0 := mA hi127_0; have HC127_0 := mA hl127_0; clear hi127_0 hl127_0; replace p127 := eq_true p127; replace q127 := eq_true q127; refine start_ (n := 10) (S := fun w' => w'.cell? (ad126.add (x5_1).toNat) = some (.slice A126_0 (rd_L1 l0 x5_1).length c126_0) ∧ w'.cell? (ad127.add (x5_1).toNat) = some (.slice A127_0 (rd_L1 l1 x5_1).length c127_0)) (ds := []) #[false, false, false, false, false, false, false, false, false, false] (by kernel_rfl) rfl rfl ⟨((HB.out.cell (World.block_lt_of_cell? w _ hw126_0)).trans hw126_0), ((HB.out.cell (World.block_lt_of_cell? w _ hw127_0)).trans hw127_0)⟩ (fun hHeld => ?_); refine with_tabW laws_eqInt64SS.tab6 laws_eqInt64SS.bits6 (fun HT_ HW_ => ?_); generalize wr.drew = w9 at HB HR126_0 HR127_0 hx126_0 hx127_0 hHeld ⊢; refine sqr0 0 (some 17) ?_; refine sqr0 1 (some 18) ?_; refine sqr0 2 (some 19) ?_; refine sqr0 4 (some 21) ?_; refine sqr0 5 (some 22) ?_; refine sqr0 6 (some 23) ?_; refine sqr1 3 (some 20) ?_; refine sqr1 7 (some 24) ?_; refine sqr2 8 (some 25) (fun K hK => ?_); refine goes_ Try.func17 (by kernel_rfl) rfl #[.slice A126_0 (rd_L1 l0 x5_1).length c126_0, .slice A127_0 (rd_L1 l1 x5_1).length c127_0] (by rfl) rfl rfl zq11 ?_; (with_reducible refine (laws_eqInt64S.calls k1 _ _ (rd_L1 l0 x5_1) _ _ (rd_L1 l1 x5_1) true _ ?s1 ?s2 ?s3 ?s4 A7.out).mono ?_); (case s1 => repeat (first | exact (Kd.C_below HR126_0.out HB.out) | (with_reducible refine Kd.C_alloc ?_ _) | (with_reducible refine Kd.C_drewN ?_ _) | (with_reducible refine Kd.C_drew ?_))); (case s2 => exact HC126_0.out); (case s3 => repeat (first | exact (Kd.C_below HR127_0.out HB.out) | (with_reducible refine Kd.C_alloc ?_ _) | (with_reducible refine Kd.C_drewN ?_ _) | (with_reducible refine Kd.C_drew ?_))); (case s4 => exact HC127_0.out); rintro e w' ⟨rfl, ⟨nd, rfl⟩⟩; refine ⟨_, rfl, ?_⟩; refine hK.out _ _ ⟨((HB.out.cell (World.block_lt_of_cell? w _ hw126_0)).trans hw126_0), ((HB.out.cell (World.block_lt_of_cell? w _ hw127_0)).trans hw127_0)⟩ (fun hHeld => ?_); clear hK K; refine sqr3 ?_; refine sqr0 9 (some 26) ?_; refine done_ (done_of HT_.out (by kernel_rfl)) ?_; (try go_wp2); go_roundg k1
   case measure => have := HK1.out; omega
   case rel => exact ⟨(wrap64 (x5_1 + 1)), zq3, H', ⟨by have := HK1.out; omega⟩, ⟨zq5⟩⟩

/-! ### laws_eqTable: function 18 -/
def laws_eqTable.f (k : Nat) (a0_0 : Int) (l0_1 : List (List Int)) (a1_0 : Int) (l1_1 : List (List Int)) : Option (Bool) := if a0_0 = a1_0 then ((laws_eqInt64SS.f k l0_1 l1_1).bind fun t131 => (if t131 = true then (some true) else (some false))) else (some false)
theorem laws_eqTable.mono : ∀ a0 a1 a2 a3 k, LeO (laws_eqTable.f k a0 a1 a2 a3) (laws_eqTable.f (k + 1) a0 a1 a2 a3) := by
  intro a0 a1 a2 a3 k
  unfold laws_eqTable.f
  repeat' first | (with_reducible first | apply laws_eqInt64SS.mono | exact LeO.refl _ | exact LeO.none _ | refine LeO.ite ?_ ?_ | refine LeO.bind ?_ (fun _ => ?_)) | apply laws_eqInt64SS.mono | exact LeO.none _ | refine LeO.ite ?_ ?_ | refine LeO.bind ?_ (fun _ => ?_)
set_option maxHeartbeats 8000000 in
set_option maxRecDepth 100000 in
theorem laws_eqTable.calls (k : Nat) (a0_0 : Int) (A0_1 : Option Addr) (c0_1 : Nat) (l0_1 : List (List Int)) (a1_0 : Int) (A1_1 : Option Addr) (c1_1 : Nat) (l1_1 : List (List Int)) (r : Bool) (w : World) (hr0_1 : Kd.C (Kd.slice 2 (Kd.int .i64)) w A0_1 l0_1.length l0_1) (hc0_1 : l0_1.length ≤ c0_1) (hr1_1 : Kd.C (Kd.slice 2 (Kd.int .i64)) w A1_1 l1_1.length l1_1) (hc1_1 : l1_1.length ≤ c1_1) (h : laws_eqTable.f k a0_0 l0_1 a1_0 l1_1 = some r) :
    Calls Try.prog 18 #[.agg #[.int .i64 a0_0, .slice A0_1 l0_1.length c0_1], .agg #[.int .i64 a1_0, .slice A1_1 l1_1.length c1_1]] w fun e w' => e = .returned (.bool r) ∧ Below w.heap.size w w' := by
 have hu29 := Try.underlying29; have HR0_1 := mA hr0_1; have HC0_1 := mA hc0_1; clear hr0_1 hc0_1; have HR1_1 := mA hr1_1; have HC1_1 := mA hc1_1; clear hr1_1 hc1_1; have HB := mA (Below.refl w.heap.size w); have H : (if a0_0 = a1_0 then ((laws_eqInt64SS.f k l0_1 l1_1).bind fun t131 => (if t131 = true then (some true) else (some false))) else (some false)) = some r := h; clear h; refine sqC (a0_0 = a1_0) (fun c3 => ?_) (fun c3 => ?_)
 ·rw [if_neg c3] at H; have c3b0 : (a0_0 == a1_0) = false := beq_eq_false_iff_ne.mpr c3; have c3b1 : (a0_0 != a1_0) = true := bne_iff_ne.mpr c3; obtain rfl := Option.some.inj H; go_enter Try.func18, Try.ntmps18; go_wp2_with (first | (refine sqX 2 #[.int .i64 a0_0, .slice A0_1 l0_1.length c0_1] 29 ?_; intro gb129 hg w18 hbox hb; have BK129 := mA (hbox); have GW129 := mA ((zq8 : w.heap.size ≤ gb129)); have GE129 := mA ((zq8 : w.heap.size ≤ gb129)); replace HB := mA (below_step zq5 hb); clear hb hbox hg) | (refine sqX 3 #[.int .i64 a1_0, .slice A1_1 l1_1.length c1_1] 29 ?_; intro gb130 hg w19 hbox hb; have BK130 := mA (hbox); have GW130 := mA ((zq9 : w.heap.size ≤ gb130)); have GE130 := mA ((zq9 : w.heap.size ≤ gb130)); replace HB := mA (below_step zq1 hb); have NB129_130 := mA ((zq45 BK129 : gb129 ≠ gb130)); have NB130_129 := mA ((zq46 BK129 : gb130 ≠ gb129)); replace BK129 := mA (blk_below (g := gb129) (o := .cells #[.int .i64 a0_0, .slice A0_1 l0_1.length c0_1] 29 (0, 0)) (zq2 BK129) hb); clear hb hbox hg; have hnb20 := NB129_130.out; have hnc20 := NB130_129.out; have hcz21_0 := sqZ0 BK129; have hcz21_1 := sqZ1 BK129; have hfz21_0 := blk_frozen BK129.out 0; have hfz21_1 := blk_frozen BK129.out 1; have hcz22_0 := sqZ0 BK130; have hcz22_1 := sqZ1 BK130; have hfz22_0 := blk_frozen BK130.out 0; have hfz22_1 := blk_frozen BK130.out 1)); go_ret; exact ⟨zq6, zq1⟩
 rw [if_pos c3] at H; have c3b0 : (a0_0 == a1_0) = true := beq_iff_eq.mpr c3; have c3b1 : (a0_0 != a1_0) = false := bne_eq_false_iff_eq.mpr c3; clear c3; obtain ⟨t131, A4, H⟩ := sqB H; by_cases c5 : t131 = true
 ·subst c5; rw [if_pos rfl] at H; obtain rfl := Option.some.inj H; go_enter Try.func18, Try.ntmps18
  go_wp2_with (first | (refine sqX 2 #[.int .i64 a0_0, .slice A0_1 l0_1.length c0_1] 29 ?_; intro gb129 hg w6 hbox hb; have BK129 := mA (hbox); have GW129 := mA ((zq8 : w.heap.size ≤ gb129)); have GE129 := mA ((zq8 : w.heap.size ≤ gb129)); replace HB := mA (below_step zq5 hb); clear hb hbox hg) | (refine sqX 3 #[.int .i64 a1_0, .slice A1_1 l1_1.length c1_1] 29 ?_; intro gb130 hg w7 hbox hb; have BK130 := mA (hbox); have GW130 := mA ((zq9 : w.heap.size ≤ gb130)); have GE130 := mA ((zq9 : w.heap.size ≤ gb130)); replace HB := mA (below_step zq1 hb); have NB129_130 := mA ((zq45 BK129 : gb129 ≠ gb130)); have NB130_129 := mA ((zq46 BK129 : gb130 ≠ gb129)); replace BK129 := mA (blk_below (g := gb129) (o := .cells #[.int .i64 a0_0, .slice A0_1 l0_1.length c0_1] 29 (0, 0)) (zq2 BK129) hb); clear hb hbox hg; have hnb8 := NB129_130.out; have hnc8 := NB130_129.out; have hcz9_0 := sqZ0 BK129; have hcz9_1 := sqZ1 BK129; have hfz9_0 := blk_frozen BK129.out 0; have hfz9_1 := blk_frozen BK129.out 1; have hcz10_0 := sqZ0 BK130; have hcz10_1 := sqZ1 BK130; have hfz10_0 := blk_frozen BK130.out 0; have hfz10_1 := blk_frozen BK130.out 1) | (refine sqG 28 (some 14) Try.func28 #[.slice A0_1 l0_1.length c0_1, .slice A1_1 l1_1.length c1_1] (h := ?_); (with_reducible refine (laws_eqInt64SS.calls k _ _ l0_1 _ _ l1_1 true _ ?s1 ?s2 ?s3 ?s4 A4.out).mono ?_); (case s1 => repeat (first | exact (Kd.C_below HR0_1.out HB.out) | (with_reducible refine Kd.C_alloc ?_ _) | (with_reducible refine Kd.C_drewN ?_ _) | (with_reducible refine Kd.C_drew ?_))); (case s2 => exact HC0_1.out); (case s3 => repeat (first | exact (Kd.C_below HR1_1.out HB.out) | (with_reducible refine Kd.C_alloc ?_ _) | (with_reducible refine Kd.C_drewN ?_ _) | (with_reducible refine Kd.C_drew ?_))); (case s4 => exact HC1_1.out); rintro e w11 ⟨rfl, hb⟩; refine ⟨_, rfl, ?_⟩; replace BK129 := mA (blk_below (g := gb129) (o := .cells #[.int .i64 a0_0, .slice A0_1 l0_1.length c0_1] 29 (0, 0)) (zq2 BK129) hb); replace BK130 := mA (blk_below (g := gb130) (o := .cells #[.int .i64 a1_0, .slice A1_1 l1_1.length c1_1] 29 (0, 0)) (zq2 BK130) hb); replace HB := mA (below_step zq1 hb); (try clear hb)))
  go_ret; exact ⟨zq6, zq1⟩
 replace c5 := Bool.eq_false_iff.mpr c5; subst c5; rw [if_neg (show ¬ (false = true) by decide)] at H; obtain rfl := Option.some.inj H; go_enter Try.func18, Try.ntmps18
 go_wp2_with (first | (refine sqX 2 #[.int .i64 a0_0, .slice A0_1 l0_1.length c0_1] 29 ?_; intro gb129 hg w12 hbox hb; have BK129 := mA (hbox); have GW129 := mA ((zq8 : w.heap.size ≤ gb129)); have GE129 := mA ((zq8 : w.heap.size ≤ gb129)); replace HB := mA (below_step zq5 hb); clear hb hbox hg) | (refine sqX 3 #[.int .i64 a1_0, .slice A1_1 l1_1.length c1_1] 29 ?_; intro gb130 hg w13 hbox hb; have BK130 := mA (hbox); have GW130 := mA ((zq9 : w.heap.size ≤ gb130)); have GE130 := mA ((zq9 : w.heap.size ≤ gb130)); replace HB := mA (below_step zq1 hb); have NB129_130 := mA ((zq45 BK129 : gb129 ≠ gb130)); have NB130_129 := mA ((zq46 BK129 : gb130 ≠ gb129)); replace BK129 := mA (blk_below (g := gb129) (o := .cells #[.int .i64 a0_0, .slice A0_1 l0_1.length c0_1] 29 (0, 0)) (zq2 BK129) hb); clear hb hbox hg; have hnb14 := NB129_130.out; have hnc14 := NB130_129.out; have hcz15_0 := sqZ0 BK129; have hcz15_1 := sqZ1 BK129; have hfz15_0 := blk_frozen BK129.out 0; have hfz15_1 := blk_frozen BK129.out 1; have hcz16_0 := sqZ0 BK130; have hcz16_1 := sqZ1 BK130; have hfz16_0 := blk_frozen BK130.out 0; have hfz16_1 := blk_frozen BK130.out 1) | (refine sqG 28 (some 14) Try.func28 #[.slice A0_1 l0_1.length c0_1, .slice A1_1 l1_1.length c1_1] (h := ?_); (with_reducible refine (laws_eqInt64SS.calls k _ _ l0_1 _ _ l1_1 false _ ?s1 ?s2 ?s3 ?s4 A4.out).mono ?_); (case s1 => repeat (first | exact (Kd.C_below HR0_1.out HB.out) | (with_reducible refine Kd.C_alloc ?_ _) | (with_reducible refine Kd.C_drewN ?_ _) | (with_reducible refine Kd.C_drew ?_))); (case s2 => exact HC0_1.out); (case s3 => repeat (first | exact (Kd.C_below HR1_1.out HB.out) | (with_reducible refine Kd.C_alloc ?_ _) | (with_reducible refine Kd.C_drewN ?_ _) | (with_reducible refine Kd.C_drew ?_))); (case s4 => exact HC1_1.out); rintro e w17 ⟨rfl, hb⟩; refine ⟨_, rfl, ?_⟩; replace BK129 := mA (blk_below (g := gb129) (o := .cells #[.int .i64 a0_0, .slice A0_1 l0_1.length c0_1] 29 (0, 0)) (zq2 BK129) hb); replace BK130 := mA (blk_below (g := gb130) (o := .cells #[.int .i64 a1_0, .slice A1_1 l1_1.length c1_1] 29 (0, 0)) (zq2 BK130) hb); replace HB := mA (below_step zq1 hb); (try clear hb)))
 go_ret; exact ⟨zq6, zq1⟩

/-! ### laws_markInt64S: function 20 -/
def laws_markInt64S.l0 : Nat → List Int → Int → Int → Option (Int × List Int)
  | 0, _, _, _ => none
  | k + 1, x0, x1, x5 => if x5 < (x0.length : Int) then (if 0 ≤ x5 then (laws_markInt64S.l0 k (x0.set (x5 : Int).toNat x1) (wrap64 (x1 + 1)) (wrap64 (x5 + 1))) else (none)) else (some (x1, x0))
def laws_markInt64S.f (k : Nat) (l0 : List Int) (a1 : Int) : Option (Int × List Int) := laws_markInt64S.l0 k l0 a1 0
theorem laws_markInt64S.mono_l : ∀ k, (∀ y0 y1 y2, LeO (laws_markInt64S.l0 k y0 y1 y2) (laws_markInt64S.l0 (k + 1) y0 y1 y2))
  | 0 => fun _ _ _ r h => by simp [laws_markInt64S.l0] at h
  | k + 1 => by
   have ih0 := laws_markInt64S.mono_l k
   intros
   unfold laws_markInt64S.l0
   all_goals repeat' first | (with_reducible first | apply ih0 | exact LeO.refl _ | exact LeO.none _ | refine LeO.ite ?_ ?_ | refine LeO.bind ?_ (fun _ => ?_)) | apply ih0 | exact LeO.none _ | refine LeO.ite ?_ ?_ | refine LeO.bind ?_ (fun _ => ?_)
theorem laws_markInt64S.mono : ∀ a0 a1 k, LeO (laws_markInt64S.f k a0 a1) (laws_markInt64S.f (k + 1) a0 a1) := by
  intro a0 a1 k
  have ih0 := laws_markInt64S.mono_l k
  unfold laws_markInt64S.f
  repeat' first | (with_reducible first | apply ih0 | exact LeO.refl _ | exact LeO.none _ | refine LeO.ite ?_ ?_ | refine LeO.bind ?_ (fun _ => ?_)) | apply ih0 | exact LeO.none _ | refine LeO.ite ?_ ?_ | refine LeO.bind ?_ (fun _ => ?_)
set_option maxHeartbeats 8000000 in
set_option maxRecDepth 100000 in
theorem laws_markInt64S.calls (k : Nat) (P0_ : Nat → Prop) (u9000_ : Value) (l0 : List Int) (a1 : Int) (r1 : Int) (r2 : List Int) (w0 w : World) (hB : Below w0.heap.size w0 w) (ho0 : Kd.R (Kd.int .i64) 2 w w0.heap.size P0_ u9000_ l0) (h : laws_markInt64S.f k l0 a1 = some (r1, r2)) :
    Calls Try.prog 20 #[u9000_, .int .i64 a1] w fun e w' => e = .returned (.int .i64 r1) ∧ Kd.R (Kd.int .i64) 2 w' w0.heap.size (fun k_ => (P0_ k_ ∨ w.heap.size ≤ k_)) u9000_ r2 ∧ Below w0.heap.size w0 w' ∧ Kept w w' (fun k_ => P0_ k_) := by
 have HO0 := mA (show Kd.R (Kd.int .i64) 2 w w0.heap.size (fun k_ => (P0_ k_ ∨ w.heap.size ≤ k_)) u9000_ l0 from Kd.R_mono ho0 (fun k_ hk => (.inl hk))); have HK := mA (Kept.refl w (fun k_ => P0_ k_)); have HW0 := mA hB.size; have HB := mA hB; clear hB; have H : (laws_markInt64S.l0 k l0 a1 0) = some (r1, r2) := h; clear h; have H' := mA H; clear H; go_enter Try.func20, Try.ntmps20; go_wp2; go_loopg [1, 5] k (fun kq v1 v5 w' => ∃ (x0_1 : List Int) (x1_1 : Int) (x5_1 : Int), v1 = .int .i64 x1_1 ∧ v5 = .int .i64 x5_1 ∧ Aside0 (laws_markInt64S.l0 kq x0_1 x1_1 x5_1 = some (r1, r2)) ∧ Aside0 (kq ≤ k) ∧ Aside0 (Kd.R (Kd.int .i64) 2 w' w0.heap.size (fun k_ => (P0_ k_ ∨ w.heap.size ≤ k_)) u9000_ x0_1) ∧ Aside0 (Kept w w' (fun k_ => P0_ k_)) ∧ Aside0 (Below w0.heap.size w0 w'))
 case atStart => exact ⟨(l0), (a1), (0), zq3, zq3, H', ⟨Nat.le_refl _⟩, ⟨zq0 HO0⟩, ⟨zq20⟩, ⟨zq5⟩⟩
 case round =>
  clear H'; (try clear c2); (try clear p2); obtain ⟨x0_1, x1_1, x5_1, rfl, rfl, HA, HK1, HO_0, HK, HB⟩ := hrel
  cases gk with
  | zero => exact absurd HA.out (by simp [laws_markInt64S.l0])
  | succ k1 =>
   have H := HA.out; clear HA; simp only [laws_markInt64S.l0] at H; refine sqC (x5_1 < (x0_1.length : Int)) (fun c3 => ?_) (fun c3 => ?_)
   ·rw [if_neg c3] at H; replace c3 := decide_eq_false c3; simp only [Option.some.injEq, Prod.mk.injEq] at H; obtain ⟨rfl, rfl⟩ := H; obtain ⟨Ao9, co9, eo9⟩ := Kd.R_slice HO_0.out; subst eo9; go_wp2; go_ret; exact ⟨zq6, zq0 HO_0, zq5, zq20⟩
   rw [if_pos c3] at H; replace c3 := decide_eq_true c3; obtain ⟨c4, H⟩ := sqI H; have c4b0 : decide (0 ≤ x5_1) = true := decide_eq_true c4; clear c4; obtain ⟨y132, hy132⟩ : ∃ y_ : List Int, y_ = (x0_1.set (x5_1 : Int).toNat x1_1) := ⟨_, rfl⟩
   replace H : (laws_markInt64S.l0 k1 y132 (wrap64 (x1_1 + 1)) (wrap64 (x5_1 + 1))) = some (r1, r2) := by first | (rw [hy132]; with_reducible exact H) | (have H2_ := (Option.bind_some _ _).symm.trans H; rw [hy132]; with_reducible exact H2_) | (have H2_ := (Option.bind_some _ _).symm.trans H; with_reducible exact H2_) | with_reducible exact H | (rw [hy132]; exact H) | exact H
   have Ny132 := mA hy132; clear hy132; have H' := mA H; clear H; obtain ⟨Ao6, co6, eo6⟩ := Kd.R_slice HO_0.out; subst eo6; have p5 : 0 ≤ (x5_1 : Int) := sqd; have q5 : (x5_1 : Int) < ((x0_1.length : Int) : Int) := sqd; obtain ⟨go5, co5, eo5, gb5, gl5, cl5, HG5⟩ := Kd.R_form HO_0.out (by omega); (first | cases eo5 | (injection eo5 with ea_ en_ ec_; (first | subst ea_ | (injection ea_ with ea_; subst ea_)); subst ec_; clear en_)); have GB5 := mA gb5; have GG5 := mA HG5; clear gb5 gl5 HG5; have HMgo5 := mA (show (P0_ go5 ∨ w.heap.size ≤ go5) from (HO_0.out.1 _ rfl)); obtain ⟨hx5_0, hf5_0⟩ := Kd.R_celln 0 HO_0.out (x5_1 : Int) p5 q5; replace p5 := eq_true p5; replace q5 := eq_true q5; have HP7 := Kd.R_putg HO_0.out (x5_1 : Int) x1_1; go_wp2_with (first | ((with_reducible refine gate_store (t := 2) (p := 15) rfl ?_); refine store_event (t := 2) (p := 15) (v := ?vo_w8) (w1 := (wr.setCell ⟨go5, (x5_1 : Int).toNat, none⟩ (.int .i64 x1_1))) ?hg ?ho ?hn ?hr ?_; (case ho => rfl); (case hg => rfl); (case hn => rfl); (case hr => exact zq12); intro w8 hw; have hg : wr.grownBy w8 (some go5) := (by rw [hw]; exact HP7.2); have hp_ : Kd.R (Kd.int .i64) 2 w8 w0.heap.size (fun k_ => (P0_ k_ ∨ w.heap.size ≤ k_)) (.slice (some ⟨go5, 0, none⟩) x0_1.length co6) y132 := (by rw [hw, Ny132.out]; exact HP7.1); clear HP7; replace HB := mA ((by rw [hw]; exact below_set (HB.out) GB5.out : Below w0.heap.size w0 w8)); replace HK := mA (Kept.of_grown (S := (fun k_ => P0_ k_)) hg zq20 (fun k_ e_ => (HO_0.out.1 k_ e_))); replace HO_0 := mA (hp_); clear hg hw hp_)); go_roundg k1
   case measure => have := HK1.out; omega
   case rel => exact ⟨(y132), (wrap64 (x1_1 + 1)), (wrap64 (x5_1 + 1)), zq3, zq3, H', ⟨by have := HK1.out; omega⟩, ⟨zq0 HO_0⟩, ⟨zq20⟩, ⟨zq5⟩⟩

/-! ### laws_markInt64SS: function 38 -/
-- given by hand
def laws_markInt64SS.l0 : Nat → List (List Int) → Int → Int → Option (Int)
  | 0, _, _, _ => none
  | k + 1, x0, x1, x5 => if x5 < (x0.length : Int) then (if 0 ≤ x5 then ((laws_markInt64S.f k (rd_L1 x0 x5) x1).bind fun bt1 => (laws_markInt64SS.l0 k (x0.set (x5 : Int).toNat bt1.2) bt1.1 (wrap64 (x5 + 1)))) else (none)) else (some x1)
def laws_markInt64SS.f (k : Nat) (l0 : List (List Int)) (a1 : Int) : Option (Int) := laws_markInt64SS.l0 k l0 a1 0
theorem laws_markInt64SS.mono_l : ∀ k, (∀ y0 y1 y2, LeO (laws_markInt64SS.l0 k y0 y1 y2) (laws_markInt64SS.l0 (k + 1) y0 y1 y2))
  | 0 => fun _ _ _ r h => by simp [laws_markInt64SS.l0] at h
  | k + 1 => by
   have ih0 := laws_markInt64SS.mono_l k
   intros
   unfold laws_markInt64SS.l0
   all_goals repeat' first | (with_reducible first | apply ih0 | apply laws_markInt64S.mono | exact LeO.refl _ | exact LeO.none _ | refine LeO.ite ?_ ?_ | refine LeO.bind ?_ (fun _ => ?_)) | apply ih0 | apply laws_markInt64S.mono | exact LeO.none _ | refine LeO.ite ?_ ?_ | refine LeO.bind ?_ (fun _ => ?_)
theorem laws_markInt64SS.mono : ∀ a0 a1 k, LeO (laws_markInt64SS.f k a0 a1) (laws_markInt64SS.f (k + 1) a0 a1) := by
  intro a0 a1 k
  unfold laws_markInt64SS.f
  exact laws_markInt64SS.mono_l k _ _ _
/-- A row of one's own taken out of rows: its value, what it says, and how it comes back written. -/
theorem laws_markInt64SS.lend {e1 e2 : Nat} {W : World} {base : Nat} {ok : Nat → Prop} {g n cap : Nat} {xs : List (List Int)} (h : Kd.S (Kd.slice e2 (Kd.int .i64)) e1 W base ok (.slice (some ⟨g, 0, none⟩) n cap) xs) (i : Int) (h0 : 0 ≤ i) (h1 : i < n) :
    ∃ (oki : Nat → Prop) (A : Option Addr) (c : Nat), W.cell? ⟨g, i.toNat, none⟩ = some (.slice A (rd_L1 xs i).length c) ∧ Kd.R (Kd.int .i64) e2 W base oki (.slice A (rd_L1 xs i).length c) (rd_L1 xs i) ∧ (∀ k, oki k → ok k) ∧
      ∀ {W1 : World} {ys : List Int}, Kept W W1 oki → Kd.R (Kd.int .i64) e2 W1 base (fun k_ => oki k_ ∨ W.heap.size ≤ k_) (.slice A (rd_L1 xs i).length c) ys → Kd.S (Kd.slice e2 (Kd.int .i64)) e1 W1 base ok (.slice (some ⟨g, 0, none⟩) n cap) (xs.set i.toNat ys) := by
 obtain ⟨oki, cs, hcl, hM, hcc, hoki, hH⟩ := Kd.S_lend h [] i h0 h1; obtain ⟨v, rfl, hR⟩ := hM; obtain ⟨A, c, rfl⟩ := Kd.R_slice hR; refine ⟨oki, A, c, ?_, hR, fun k hk => (hoki k hk).1, fun {W1 ys} hk hR1 => ?_⟩
 ·have hc0 := hcc 0 _ rfl; rw [show (Kd.slice e2 (Kd.int .i64)).sz = 1 from rfl, Nat.mul_one, Nat.add_zero] at hc0; exact hc0
 ·exact Kd.H_back (okp := oki) (Kd.H_step hH (fun k _ hn hlt => hk.2 k hlt hn)) (Kd.M_row (Kd.R_reok rfl hR1 (fun k e_ => hR.1 k e_))) (fun _ hk => hk)
/-- A variable's block is none of rows of another type. -/
theorem laws_markInt64SS.off {W : World} {g t : Nat} {cs : Array Value} {L : List Nat} (hb : W.heap[g]? = some (.cells cs t (0, 0))) (hs : ∃ q, q ∈ L ∧ ∃ cells, W.heap[g]? = some (.cells cells q (0, 0))) (hL : ∀ q, q ∈ L → q ≠ t) : False := by
 obtain ⟨q, hq, cells, hc⟩ := hs; rw [hb] at hc
 injection hc with hc
 injection hc with h1 h2 h3
 exact hL q hq h2.symm
set_option maxHeartbeats 8000000 in
set_option maxRecDepth 100000 in
theorem laws_markInt64SS.calls (k : Nat) (P0_ : Nat → Prop) (u9000_ : Value) (l0 : List (List Int)) (a1 : Int) (r1 : Int) (w0 w : World) (hB : Below w0.heap.size w0 w) (ho0 : Kd.S (Kd.slice 2 (Kd.int .i64)) 26 w w0.heap.size P0_ u9000_ l0) (h : laws_markInt64SS.f k l0 a1 = some r1) :
    Calls Try.prog 38 #[u9000_, .int .i64 a1] w fun e w' => e = .returned (.int .i64 r1) ∧ Below w0.heap.size w0 w' ∧ Kept w w' (fun k_ => P0_ k_) := by
 have HO0 := mA ho0; have HK := mA (Kept.refl w (fun k_ => P0_ k_)); have HB := mA hB; clear hB; have H : (laws_markInt64SS.l0 k l0 a1 0) = some r1 := h; clear h; have H' := mA H; clear H; go_enter Try.func38, Try.ntmps38; go_wp2; go_loopg [1, 5] k (fun kq v1 v5 w' => ∃ (x0_1 : List (List Int)) (x1_1 : Int) (x5_1 : Int), v1 = .int .i64 x1_1 ∧ v5 = .int .i64 x5_1 ∧ Aside0 (laws_markInt64SS.l0 kq x0_1 x1_1 x5_1 = some r1) ∧ Aside0 (kq ≤ k) ∧ Aside0 (Kd.S (Kd.slice 2 (Kd.int .i64)) 26 w' w0.heap.size P0_ u9000_ x0_1) ∧ Aside0 (Kept w w' (fun k_ => P0_ k_)) ∧ Aside0 (Below w0.heap.size w0 w'))
 case atStart => exact ⟨(l0), (a1), (0), zq3, zq3, H', ⟨Nat.le_refl _⟩, ⟨zq4 HO0⟩, ⟨zq20⟩, ⟨zq5⟩⟩
 case round =>
  clear H'; (try clear c2); (try clear p2); obtain ⟨x0_1, x1_1, x5_1, rfl, rfl, HA, HK1, HO_0, HK, HB⟩ := hrel
  cases gk with
  | zero => exact absurd HA.out (by simp [laws_markInt64SS.l0])
  | succ k1 =>
   have H := HA.out; clear HA; simp only [laws_markInt64SS.l0] at H; refine sqC (x5_1 < (x0_1.length : Int)) (fun c3 => ?_) (fun c3 => ?_)
   ·rw [if_neg c3] at H; replace c3 := decide_eq_false c3; obtain rfl := Option.some.inj H; obtain ⟨Ao9, co9, eo9⟩ := Kd.R_slice (Kd.S_R HO_0.out); subst eo9; go_wp2; go_ret; exact ⟨zq6, zq5, zq20⟩
   rw [if_pos c3] at H; have c3b0 := decide_eq_true c3; obtain ⟨c4, H⟩ := sqI H; have c4b0 : decide (0 ≤ x5_1) = true := decide_eq_true c4; obtain ⟨⟨t1, t2⟩, A6, H⟩ := sqB H; dsimp only at H; have H' := mA H; clear H; obtain ⟨Ao6, co6, eo6⟩ := Kd.R_slice (Kd.S_R HO_0.out); subst eo6; obtain ⟨go5, co5, eo5, gb5, gl5, cl5, HG5⟩ := Kd.R_form (Kd.S_R HO_0.out) (by omega)
   injection eo5 with ea_ en_ ec_
   subst ea_ ec_; clear en_ gb5 gl5 HG5; obtain ⟨oki, Ai, ci, hx5_0, HRi, Hsub, Hback⟩ := laws_markInt64SS.lend HO_0.out x5_1 c4 c3; have HI := mA HRi; have HS := mA Hsub; have HT := mA (@Hback); clear HRi Hsub Hback; have p5 : 0 ≤ (x5_1 : Int) := c4; have q5 : (x5_1 : Int) < ((x0_1.length : Int) : Int) := c3; clear c3 c4; replace p5 := eq_true p5; replace q5 := eq_true q5; go_wp2_with (first | (refine sqG 20 (some 17) Try.func20 #[.slice Ai (rd_L1 x0_1 x5_1).length ci, .int .i64 x1_1] (hargs := (by (try simp only [List.map_toArray, List.map_cons, List.map_nil]); first | done | rfl)) (h := ?_); (with_reducible refine (laws_markInt64S.calls k1 oki (.slice Ai (rd_L1 x0_1 x5_1).length ci) (rd_L1 x0_1 x5_1) x1_1 t1 t2 w0 _ ?s1 ?s2 A6.out).mono ?_); (case s1 => repeat (first | (with_reducible first | exact HB.out | apply below_alloc | apply pw_below_drewN | apply below_drew1) | exact HB.out)); (case s2 => (with_reducible repeat (first | apply Kd.R_alloc | apply Kd.R_drewN | apply Kd.R_drew)); exact HI.out); rintro e w8 ⟨rfl, hy0, hb, hkp⟩; refine ⟨_, rfl, ?_⟩; have n0_ := mA (HT.out hkp hy0); have n1_ := mA (hb); have n2_ := mA (Kept.then_ (S := fun k_ => P0_ k_) zq20 hkp (fun k_ hs_ => .inl (HS.out k_ hs_))); (clear HO_0 HB HK HT); have HO_0 := n0_; have HB := n1_; have HK := n2_; clear n0_ n1_ n2_ hb hkp hy0)); go_roundg k1
   case measure => have := HK1.out; omega
   case rel => exact ⟨(x0_1.set (x5_1 : Int).toNat t2), (t1), (wrap64 (x5_1 + 1)), zq3, zq3, H', ⟨by have := HK1.out; omega⟩, ⟨zq4 HO_0⟩, ⟨zq20⟩, ⟨zq5⟩⟩

/-! ### laws_markTable: function 19 -/
-- given by hand
def laws_markTable.f (k : Nat) (a0_0 : Int) (l0_1 : List (List Int)) (a1 : Int) : Option (Int) := laws_markInt64SS.f k l0_1 a1
theorem laws_markTable.mono : ∀ a0 a1 a2 k, LeO (laws_markTable.f k a0 a1 a2) (laws_markTable.f (k + 1) a0 a1 a2) := by
  intro a0 a1 a2 k
  unfold laws_markTable.f
  exact laws_markInt64SS.mono _ _ _
set_option maxHeartbeats 8000000 in
set_option maxRecDepth 100000 in
theorem laws_markTable.calls (k : Nat) (a0_0 : Int) (P0_1_ : Nat → Prop) (u9000_ : Value) (l0_1 : List (List Int)) (a1 : Int) (r1 : Int) (w0 w : World) (hB : Below w0.heap.size w0 w) (ho0_1 : Kd.S (Kd.slice 2 (Kd.int .i64)) 26 w w0.heap.size P0_1_ u9000_ l0_1) (h : laws_markTable.f k a0_0 l0_1 a1 = some r1) :
    Calls Try.prog 19 #[.agg #[.int .i64 a0_0, u9000_], .int .i64 a1] w fun e w' => e = .returned (.int .i64 r1) ∧ Below w0.heap.size w0 w' ∧ Kept w w' (fun k_ => P0_1_ k_) := by
 have huS := Try.underlying29; obtain ⟨A0_1, c0_1, rfl⟩ := Kd.R_slice (Kd.S_R ho0_1); have HO0 := mA ho0_1; have HK := mA (Kept.refl w (fun k_ => P0_1_ k_)); have HW := mA hB.size; have HB := mA hB; clear hB ho0_1; have A3 := mA (show laws_markInt64SS.f k l0_1 a1 = some r1 from h); clear h; go_enter Try.func19, Try.ntmps19; go_wp2_with (first | (refine sqX 2 #[.int .i64 a0_0, .slice A0_1 l0_1.length c0_1] 29 ?_; intro gb103 hg w5 hbox hb; have n0_ := mA (below_step zq5 hb); have n1_ := mA (hbox); have n2_ := mA (Kd.S_below (zq4 HO0) hb); have n3_ := mA (Kept.below zq20 hb); (clear HB HO0 HK); have HB := n0_; have BK103 := n1_; have HO0 := n2_; have HK := n3_; clear n0_ n1_ n2_ n3_ hb hbox hg; have hcz6_0 := sqZ0 BK103; have hcz6_1 := sqZ1 BK103; have hfz6_0 := blk_frozen BK103.out 0; have hfz6_1 := blk_frozen BK103.out 1) | (refine sqG 38 (some 8) Try.func38 #[.slice A0_1 l0_1.length c0_1, .int .i64 a1] (hargs := (by (try simp only [List.map_toArray, List.map_cons, List.map_nil]); first | done | rfl)) (h := ?_); (with_reducible refine (laws_markInt64SS.calls k P0_1_ (.slice A0_1 l0_1.length c0_1) l0_1 a1 r1 w0 _ ?s1 ?s2 A3.out).mono ?_); (case s1 => repeat (first | (with_reducible first | exact HB.out | apply below_alloc | apply pw_below_drewN | apply below_drew1) | exact HB.out)); (case s2 => (with_reducible repeat (first | apply Kd.S_alloc | apply Kd.S_drewN | apply Kd.S_drew)); exact HO0.out); rintro e w8 ⟨rfl, hb, hkp⟩; refine ⟨_, rfl, ?_⟩; have n1_ := mA (hb); have n2_ := mA (Kept.then_ (S := fun k_ => P0_1_ k_) zq20 hkp (fun k_ hs_ => .inl hs_)); (clear HB HK HO0 BK103 hcz6_0 hcz6_1 hfz6_0 hfz6_1); have HB := n1_; have HK := n2_; clear n1_ n2_ hb hkp)); go_ret; exact ⟨zq6, zq5, zq20⟩

/-! ### laws_heldInt64S: function 21 -/
def laws_heldInt64S.l0 : Nat → List Int → Int → Int → Option (Int)
  | 0, _, _, _ => none
  | k + 1, x0, x1, x5 => if x5 < (x0.length : Int) then (if 0 ≤ x5 then (if (rd x0 x5) = x1 then (laws_heldInt64S.l0 k x0 (wrap64 (x1 + 1)) (wrap64 (x5 + 1))) else (some (-1))) else (none)) else (some x1)
def laws_heldInt64S.f (k : Nat) (l0 : List Int) (a1 : Int) : Option (Int) := laws_heldInt64S.l0 k l0 a1 0
theorem laws_heldInt64S.mono_l : ∀ k, (∀ y0 y1 y2, LeO (laws_heldInt64S.l0 k y0 y1 y2) (laws_heldInt64S.l0 (k + 1) y0 y1 y2))
  | 0 => fun _ _ _ r h => by simp [laws_heldInt64S.l0] at h
  | k + 1 => by
   have ih0 := laws_heldInt64S.mono_l k
   intros
   unfold laws_heldInt64S.l0
   all_goals repeat' first | (with_reducible first | apply ih0 | exact LeO.refl _ | exact LeO.none _ | refine LeO.ite ?_ ?_ | refine LeO.bind ?_ (fun _ => ?_)) | apply ih0 | exact LeO.none _ | refine LeO.ite ?_ ?_ | refine LeO.bind ?_ (fun _ => ?_)
theorem laws_heldInt64S.mono : ∀ a0 a1 k, LeO (laws_heldInt64S.f k a0 a1) (laws_heldInt64S.f (k + 1) a0 a1) := by
  intro a0 a1 k
  have ih0 := laws_heldInt64S.mono_l k
  unfold laws_heldInt64S.f
  repeat' first | (with_reducible first | apply ih0 | exact LeO.refl _ | exact LeO.none _ | refine LeO.ite ?_ ?_ | refine LeO.bind ?_ (fun _ => ?_)) | apply ih0 | exact LeO.none _ | refine LeO.ite ?_ ?_ | refine LeO.bind ?_ (fun _ => ?_)
set_option maxHeartbeats 8000000 in
set_option maxRecDepth 100000 in
theorem laws_heldInt64S.calls (k : Nat) (A0 : Option Addr) (c0 : Nat) (l0 : List Int) (a1 : Int) (r : Int) (w : World) (hr0 : Kd.C (Kd.int .i64) w A0 l0.length l0) (hc0 : l0.length ≤ c0) (h : laws_heldInt64S.f k l0 a1 = some r) :
    Calls Try.prog 21 #[.slice A0 l0.length c0, .int .i64 a1] w fun e w' => e = .returned (.int .i64 r) ∧ Drawn0 w w' := by
 have HR0 := mA hr0; have HC0 := mA hc0; clear hr0 hc0; have H : (laws_heldInt64S.l0 k l0 a1 0) = some r := h; clear h; have H' := mA H; clear H; go_enter Try.func21, Try.ntmps21; go_wp2; go_loopg [1, 5] k (fun kq v1 v5 w' => ∃ (x1_1 : Int) (x5_1 : Int), v1 = .int .i64 x1_1 ∧ v5 = .int .i64 x5_1 ∧ Aside0 (laws_heldInt64S.l0 kq l0 x1_1 x5_1 = some r) ∧ Aside0 (kq ≤ k) ∧ Drawn0 w w')
 case atStart => exact ⟨(a1), (0), zq3, zq3, H', ⟨Nat.le_refl _⟩, zq7⟩
 case round =>
  clear H'; (try clear c2); (try clear p2); obtain ⟨x1_1, x5_1, rfl, rfl, HA, HK1, ⟨m1, rfl⟩⟩ := hrel
  cases gk with
  | zero => exact absurd HA.out (by simp [laws_heldInt64S.l0])
  | succ k1 =>
   have H := HA.out; clear HA; simp only [laws_heldInt64S.l0] at H; refine sqC (x5_1 < (l0.length : Int)) (fun c3 => ?_) (fun c3 => ?_)
   ·rw [if_neg c3] at H; replace c3 := decide_eq_false c3; obtain rfl := Option.some.inj H; go_wp2; go_ret; exact ⟨zq3, zq7⟩
   rw [if_pos c3] at H; replace c3 := decide_eq_true c3; obtain ⟨c4, H⟩ := sqI H; have c4b0 : decide (0 ≤ x5_1) = true := decide_eq_true c4; clear c4; refine sqC ((rd l0 x5_1) = x1_1) (fun c5 => ?_) (fun c5 => ?_)
   ·rw [if_neg c5] at H; have c5b0 : ((rd l0 x5_1) == x1_1) = false := beq_eq_false_iff_ne.mpr c5; have c5b1 : ((rd l0 x5_1) != x1_1) = true := bne_iff_ne.mpr c5; obtain rfl := Option.some.inj H; have p133 : 0 ≤ (x5_1 : Int) := sqd; have q133 : x5_1 < (l0.length : Int) := sqd; obtain ⟨ad133, e133, hx133_0⟩ := Kd.at_int HR0.out x5_1 p133 q133
    cases e133
    replace p133 := eq_true p133; replace q133 := eq_true q133; go_wp2; go_ret; exact ⟨zq3, zq7⟩
   rw [if_pos c5] at H; have c5b0 : ((rd l0 x5_1) == x1_1) = true := beq_iff_eq.mpr c5; have c5b1 : ((rd l0 x5_1) != x1_1) = false := bne_eq_false_iff_eq.mpr c5; clear c5; have H' := mA H; clear H; have p133 : 0 ≤ (x5_1 : Int) := sqd; have q133 : x5_1 < (l0.length : Int) := sqd; obtain ⟨ad133, e133, hx133_0⟩ := Kd.at_int HR0.out x5_1 p133 q133
   cases e133
   replace p133 := eq_true p133; replace q133 := eq_true q133; go_wp2; go_roundg k1
   case measure => have := HK1.out; omega
   case rel => exact ⟨(wrap64 (x1_1 + 1)), (wrap64 (x5_1 + 1)), zq3, zq3, H', ⟨by have := HK1.out; omega⟩, zq7⟩

/-! ### spec_l00In: function 87 -/
def spec_l00In.f (a0 : Int) (a1 : Int) (a2 : Int) : Option (Bool) := if a0 ≥ a1 then (some (decide (a0 ≤ a2))) else (some false)
set_option maxHeartbeats 8000000 in
set_option maxRecDepth 100000 in
theorem spec_l00In.calls (a0 : Int) (a1 : Int) (a2 : Int) (r : Bool) (w : World) (h : spec_l00In.f a0 a1 a2 = some r) :
    Calls Try.prog 87 #[.int .i64 a0, .int .i64 a1, .int .i64 a2] w fun e w' => e = .returned (.bool r) ∧ Drawn0 w w' := by
 have H : (if a0 ≥ a1 then (some (decide (a0 ≤ a2))) else (some false)) = some r := h; clear h; by_cases c4 : a0 ≥ a1
 ·rw [if_pos c4] at H; have c4b0 : decide (a1 ≤ a0) = true := decide_eq_true c4; clear c4; obtain rfl := Option.some.inj H; go_enter Try.func87, Try.ntmps87; go_wp2; go_ret; exact ⟨zq3, zq7⟩
 rw [if_neg c4] at H; have c4b0 : decide (a1 ≤ a0) = false := decide_eq_false c4; clear c4; obtain rfl := Option.some.inj H; go_enter Try.func87, Try.ntmps87; go_wp2; go_ret; exact ⟨zq3, zq7⟩

/-! ### spec_l05Side: function 88 -/
def spec_l05Side.f (a0 : Int) : Option (Bool) := if a0 ≥ 1 then (some (decide (a0 ≤ 5))) else (some false)
set_option maxHeartbeats 8000000 in
set_option maxRecDepth 100000 in
theorem spec_l05Side.calls (a0 : Int) (r : Bool) (w : World) (h : spec_l05Side.f a0 = some r) :
    Calls Try.prog 88 #[.int .i64 a0] w fun e w' => e = .returned (.bool r) ∧ Drawn0 w w' := by
 have H : (if a0 ≥ 1 then (some (decide (a0 ≤ 5))) else (some false)) = some r := h; clear h; by_cases c2 : a0 ≥ 1
 ·rw [if_pos c2] at H; have c2b0 : decide (1 ≤ a0) = true := decide_eq_true c2; clear c2; obtain rfl := Option.some.inj H; go_enter Try.func88, Try.ntmps88; go_wp2; go_ret; exact ⟨zq3, zq7⟩
 rw [if_neg c2] at H; have c2b0 : decide (1 ≤ a0) = false := decide_eq_false c2; clear c2; obtain rfl := Option.some.inj H; go_enter Try.func88, Try.ntmps88; go_wp2; go_ret; exact ⟨zq3, zq7⟩

end Go.Proofs.Ytmjabeddommiaaa.PFnExactCutFor
