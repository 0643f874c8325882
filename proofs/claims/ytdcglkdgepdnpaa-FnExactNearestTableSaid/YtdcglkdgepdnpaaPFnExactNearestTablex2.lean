/- Written by this session's program (wip/tool/xprint.py) over the kit's printer. -/
import Derived.Test.YtdcglkdgepdnpaaPFnExactNearestTablex0
import Derived.Test.YtdcglkdgepdnpaaPFnExactNearestTablex1
namespace Go.Proofs.Ytdcglkdgepdnpaa.PFnExactNearestTable
open Go.RowKit Go.Proofs.YtdcglkdgepdnpaaW.PrintWords Go.Proofs.YtdcglkdgepdnpaaW.PrintLast Go.Proofs.YtdcglkdgepdnpaaW.PrintMore
attribute [local go_sem] max2_int min2_int max_two min_two max_three min_three max_four min_four   -- for this text's walks alone
set_option linter.unusedVariables false
set_option linter.unusedSimpArgs false

/-! ### laws_eqInt64SS: function 12 -/
def laws_eqInt64SS.l0 : Nat → List (List Int) → List (List Int) → Int → Option (Bool)
  | 0, _, _, _ => none
  | k + 1, x0, x1, x5 => if x5 < (x0.length : Int) then (if 0 ≤ x5 then (if x5 < (x1.length : Int) then ((laws_eqInt64S.f k (rd_L1 x0 x5) (rd_L1 x1 x5)).bind fun t128 => (if t128 = true then (laws_eqInt64SS.l0 k x0 x1 (wrap64 (x5 + 1))) else (some false))) else (none)) else (none)) else (some true)
def laws_eqInt64SS.f (k : Nat) (l0 : List (List Int)) (l1 : List (List Int)) : Option (Bool) := if (l0.length : Int) = (l1.length : Int) then (laws_eqInt64SS.l0 k l0 l1 0) else (some false)
theorem laws_eqInt64SS.mono_l : ∀ k, (∀ y0 y1 y2, LeO (laws_eqInt64SS.l0 k y0 y1 y2) (laws_eqInt64SS.l0 (k + 1) y0 y1 y2))
  | 0 => fun _ _ _ r h => by simp [laws_eqInt64SS.l0] at h
  | k + 1 => by
   have ih0 := laws_eqInt64SS.mono_l k
   intros
   unfold laws_eqInt64SS.l0
   all_goals repeat' first | (with_reducible first | apply ih0 | apply laws_eqInt64S.mono | exact LeO.refl _ | exact LeO.none _ | refine LeO.ite ?_ ?_ | refine LeO.bind ?_ (fun _ => ?_)) | apply ih0 | apply laws_eqInt64S.mono | exact LeO.none _ | refine LeO.ite ?_ ?_ | refine LeO.bind ?_ (fun _ => ?_)
theorem laws_eqInt64SS.mono : ∀ a0 a1 k, LeO (laws_eqInt64SS.f k a0 a1) (laws_eqInt64SS.f (k + 1) a0 a1) := by
  intro a0 a1 k
  have ih0 := laws_eqInt64SS.mono_l k
  unfold laws_eqInt64SS.f
  repeat' first | (with_reducible first | apply ih0 | apply laws_eqInt64S.mono | exact LeO.refl _ | exact LeO.none _ | refine LeO.ite ?_ ?_ | refine LeO.bind ?_ (fun _ => ?_)) | apply ih0 | apply laws_eqInt64S.mono | exact LeO.none _ | refine LeO.ite ?_ ?_ | refine LeO.bind ?_ (fun _ => ?_)
def laws_eqInt64SS.T6 : Bool × List (List Nat × List Nat) := (true, [([], []), ([], []), ([0, 1], [0, 1]), ([2], [2]), ([], []), ([], []), ([4, 5], [4, 5]), ([6], [6]), ([3, 7], [3, 7]), ([8], [8])])
def laws_eqInt64SS.B6 : List Nat := [0, 0, 3, 7, 0, 0, 48, 112, 255, 511]
theorem laws_eqInt64SS.tab6 : rtab .any (opsOf Try.f12 6) = laws_eqInt64SS.T6 := by kernel_rfl
theorem laws_eqInt64SS.bits6 : waitsOk laws_eqInt64SS.T6.2 laws_eqInt64SS.B6 = true := by kernel_rfl
set_option maxHeartbeats 8000000 in
set_option maxRecDepth 100000 in
theorem laws_eqInt64SS.calls (k : Nat) (A0 : Option Addr) (c0 : Nat) (l0 : List (List Int)) (A1 : Option Addr) (c1 : Nat) (l1 : List (List Int)) (r : Bool) (w : World) (hr0 : Kd.C (Kd.slice 2 (Kd.int .i64)) w A0 l0.length l0) (hc0 : l0.length ≤ c0) (hr1 : Kd.C (Kd.slice 2 (Kd.int .i64)) w A1 l1.length l1) (hc1 : l1.length ≤ c1) (h : laws_eqInt64SS.f k l0 l1 = some r) :
    Calls Try.prog 12 #[.slice A0 l0.length c0, .slice A1 l1.length c1] w fun e w' => e = .returned (.bool r) ∧ Below w.heap.size w w' := by
 have HR0 := mA hr0; have HC0 := mA hc0; clear hr0 hc0; have HR1 := mA hr1; have HC1 := mA hc1; clear hr1 hc1; have HB := mA (Below.refl w.heap.size w); have H : (if (l0.length : Int) = (l1.length : Int) then (laws_eqInt64SS.l0 k l0 l1 0) else (some false)) = some r := h; clear h; refine sqC ((l0.length : Int) = (l1.length : Int)) (fun c3 => ?_) (fun c3 => ?_)
 ·rw [if_neg c3] at H; have c3b0 : ((l0.length : Int) == (l1.length : Int)) = false := beq_eq_false_iff_ne.mpr c3; have c3b1 : ((l0.length : Int) != (l1.length : Int)) = true := bne_iff_ne.mpr c3
  have c3b2 : (l0.length == l1.length) = false := by first | simpa using c3 | (simp at c3 ⊢; omega)
  obtain rfl := Option.some.inj H; go_enter Try.func12, Try.ntmps12; go_wp2; go_ret; exact ⟨zq6, zq3⟩
 rw [if_pos c3] at H; have c3b0 : ((l0.length : Int) == (l1.length : Int)) = true := beq_iff_eq.mpr c3; have c3b1 : ((l0.length : Int) != (l1.length : Int)) = false := bne_eq_false_iff_eq.mpr c3
 have c3b2 : (l0.length == l1.length) = true := by first | simpa using c3 | (simp at c3 ⊢; omega)
 clear c3; have H' := mA H; clear H; go_enter Try.func12, Try.ntmps12; go_wp2; go_loopg [5] k (fun kq v5 w' => ∃ (x5_1 : Int), v5 = .int .i64 x5_1 ∧ Aside0 (laws_eqInt64SS.l0 kq l0 l1 x5_1 = some r) ∧ Aside0 (kq ≤ k) ∧ Aside0 (Below w.heap.size w w'))
 case atStart => exact ⟨(0), zq4, H', ⟨Nat.le_refl _⟩, ⟨zq3⟩⟩
 case round =>
  clear H'; (try clear c1); (try clear c3); (try clear c3b0); (try clear c3b1); (try clear c3b2); obtain ⟨x5_1, rfl, HA, HK1, HB⟩ := hrel
  cases gk with
  | zero => exact absurd HA.out (by simp [laws_eqInt64SS.l0])
  | succ k1 =>
   have H := HA.out; clear HA; simp only [laws_eqInt64SS.l0] at H; refine sqC (x5_1 < (l0.length : Int)) (fun c4 => ?_) (fun c4 => ?_)
   ·rw [if_neg c4] at H; have c4b0 : decide (x5_1 < (l0.length : Int)) = false := decide_eq_false c4; clear c4; obtain rfl := Option.some.inj H; go_wp2; go_ret; exact ⟨zq6, zq3⟩
   rw [if_pos c4] at H; have c4b0 : decide (x5_1 < (l0.length : Int)) = true := decide_eq_true c4; clear c4; obtain ⟨c5, H⟩ := sqI H; replace c5 := decide_eq_true c5; obtain ⟨c6, H⟩ := sqI H; have c6b0 : decide (x5_1 < (l1.length : Int)) = true := decide_eq_true c6; clear c6; obtain ⟨t128, A7, H⟩ := sqB H; refine sqC (t128 = true) (fun c8 => ?_) (fun c8 => ?_)
   ·replace c8 := Bool.eq_false_iff.mpr c8; subst c8; rw [if_neg (show ¬ (false = true) by decide)] at H; obtain rfl := Option.some.inj H; (try go_wp2); replace HB := mA (below_drew1 HB.out); have p126 : 0 ≤ (x5_1 : Int) := sqd; have q126 : x5_1 < (l0.length : Int) := sqd; obtain ⟨ad126, A126_0, c126_0, e126, hx126_0, hl126_0, hi126_0⟩ := at_L1 HR0.out x5_1 p126 q126; have hw126_0 := hx126_0
    cases e126
    replace hx126_0 := sqh HB hx126_0; have HR126_0 := mA hi126_0; have HC126_0 := mA hl126_0; clear hi126_0 hl126_0; replace p126 := eq_true p126; replace q126 := eq_true q126; have p127 : 0 ≤ (x5_1 : Int) := sqd; have q127 : x5_1 < (l1.length : Int) := sqd; obtain ⟨ad127, A127_0, c127_0, e127, hx127_0, hl127_0, hi127_0⟩ := at_L1 HR1.out x5_1 p127 q127; have hw127_0 := hx127_0
    cases e127
    replace hx127_0 := sqh HB hx127_0; have HR127_0 := mA hi127_0; have HC127_0 := mA hl127_0; clear hi127_0 hl127_0; replace p127 := eq_true p127; replace q127 := eq_true q127; refine start_ (n := 10) (S := fun w' => w'.cell? (ad126.add (x5_1).toNat) = some (.slice A126_0 (rd_L1 l0 x5_1).length c126_0) ∧ w'.cell? (ad127.add (x5_1).toNat) = some (.slice A127_0 (rd_L1 l1 x5_1).length c127_0)) (ds := []) #[false, false, false, false, false, false, false, false, false, false] (by kernel_rfl) rfl rfl ⟨((HB.out.cell (World.block_lt_of_cell? w _ hw126_0)).trans hw126_0), ((HB.out.cell (World.block_lt_of_cell? w _ hw127_0)).trans hw127_0)⟩ (fun hHeld => ?_); refine with_tabW laws_eqInt64SS.tab6 laws_eqInt64SS.bits6 (fun HT_ HW_ => ?_); generalize wr.drew = w10 at HB HR126_0 HR127_0 hx126_0 hx127_0 hHeld ⊢; refine sqr0 0 (some 17) ?_; refine sqr0 1 (some 18) ?_; refine sqr0 2 (some 19) ?_; refine sqr0 4 (some 21) ?_; refine sqr0 5 (some 22) ?_; refine sqr0 6 (some 23) ?_; refine sqr1 3 (some 20) ?_; refine sqr1 7 (some 24) ?_; refine sqr2 8 (some 25) (fun K hK => ?_); refine goes_ Try.func31 (by kernel_rfl) rfl #[.slice A126_0 (rd_L1 l0 x5_1).length c126_0, .slice A127_0 (rd_L1 l1 x5_1).length c127_0] (by rfl) rfl rfl zq11 ?_; (with_reducible refine (laws_eqInt64S.calls k1 _ _ (rd_L1 l0 x5_1) _ _ (rd_L1 l1 x5_1) false _ ?s1 ?s2 ?s3 ?s4 A7.out).mono ?_); (case s1 => exact zq7 HR126_0); (case s2 => exact HC126_0.out); (case s3 => exact zq7 HR127_0); (case s4 => exact HC127_0.out); rintro e w' ⟨rfl, ⟨nd, rfl⟩⟩; refine ⟨_, rfl, ?_⟩; refine hK.out _ _ ⟨((HB.out.cell (World.block_lt_of_cell? w _ hw126_0)).trans hw126_0), ((HB.out.cell (World.block_lt_of_cell? w _ hw127_0)).trans hw127_0)⟩ (fun hHeld => ?_); clear hK K; refine sqr3 ?_; refine sqr0 9 (some 26) ?_; refine done_ (done_of HT_.out (by kernel_rfl)) ?_; (try go_wp2); go_ret; exact ⟨zq6, zq3⟩
   subst c8; rw [if_pos rfl] at H; have H' := mA H; clear H; (try go_wp2); replace HB := mA (below_drew1 HB.out); have p126 : 0 ≤ (x5_1 : Int) := sqd; have q126 : x5_1 < (l0.length : Int) := sqd; obtain ⟨ad126, A126_0, c126_0, e126, hx126_0, hl126_0, hi126_0⟩ := at_L1 HR0.out x5_1 p126 q126; have hw126_0 := hx126_0
   cases e126
   replace hx126_0 := sqh HB hx126_0; have HR126_0 := mA hi126_0; have HC126_0 := mA hl126_0; clear hi126_0 hl126_0; replace p126 := eq_true p126; replace q126 := eq_true q126; have p127 : 0 ≤ (x5_1 : Int) := sqd; have q127 : x5_1 < (l1.length : Int) := sqd; obtain ⟨ad127, A127_0, c127_0, e127, hx127_0, hl127_0, hi127_0⟩ := at_L1 HR1.out x5_1 p127 q127; have hw127_0 := hx127_0
   cases e127
   replace hx127_0 := sqh HB hx127_0; have HR127_0 := mA hi127_0; have HC127_0 := mA hl127_0; clear hi127_0 hl127_0; replace p127 := eq_true p127; replace q127 := eq_true q127; refine start_ (n := 10) (S := fun w' => w'.cell? (ad126.add (x5_1).toNat) = some (.slice A126_0 (rd_L1 l0 x5_1).length c126_0) ∧ w'.cell? (ad127.add (x5_1).toNat) = some (.slice A127_0 (rd_L1 l1 x5_1).length c127_0)) (ds := []) #[false, false, false, false, false, false, false, false, false, false] (by kernel_rfl) rfl rfl ⟨((HB.out.cell (World.block_lt_of_cell? w _ hw126_0)).trans hw126_0), ((HB.out.cell (World.block_lt_of_cell? w _ hw127_0)).trans hw127_0)⟩ (fun hHeld => ?_); refine with_tabW laws_eqInt64SS.tab6 laws_eqInt64SS.bits6 (fun HT_ HW_ => ?_); generalize wr.drew = w9 at HB HR126_0 HR127_0 hx126_0 hx127_0 hHeld ⊢; refine sqr0 0 (some 17) ?_; refine sqr0 1 (some 18) ?_; refine sqr0 2 (some 19) ?_; refine sqr0 4 (some 21) ?_; refine sqr0 5 (some 22) ?_; refine sqr0 6 (some 23) ?_; refine sqr1 3 (some 20) ?_; refine sqr1 7 (some 24) ?_; refine sqr2 8 (some 25) (fun K hK => ?_); refine goes_ Try.func31 (by kernel_rfl) rfl #[.slice A126_0 (rd_L1 l0 x5_1).length c126_0, .slice A127_0 (rd_L1 l1 x5_1).length c127_0] (by rfl) rfl rfl zq11 ?_; (with_reducible refine (laws_eqInt64S.calls k1 _ _ (rd_L1 l0 x5_1) _ _ (rd_L1 l1 x5_1) true _ ?s1 ?s2 ?s3 ?s4 A7.out).mono ?_); (case s1 => exact zq7 HR126_0); (case s2 => exact HC126_0.out); (case s3 => exact zq7 HR127_0); (case s4 => exact HC127_0.out); rintro e w' ⟨rfl, ⟨nd, rfl⟩⟩; refine ⟨_, rfl, ?_⟩; refine hK.out _ _ ⟨((HB.out.cell (World.block_lt_of_cell? w _ hw126_0)).trans hw126_0), ((HB.out.cell (World.block_lt_of_cell? w _ hw127_0)).trans hw127_0)⟩ (fun hHeld => ?_); clear hK K; refine sqr3 ?_; refine sqr0 9 (some 26) ?_; refine done_ (done_of HT_.out (by kernel_rfl)) ?_; (try go_wp2); go_roundg k1
   case measure => have := HK1.out; omega
   case rel => exact ⟨(wrap64 (x5_1 + 1)), zq4, H', ⟨zq25 HK1⟩, ⟨zq3⟩⟩

/-! ### laws_eqTable: function 9 -/
def laws_eqTable.f (k : Nat) (a0_0 : Int) (l0_1 : List (List Int)) (a1_0 : Int) (l1_1 : List (List Int)) : Option (Bool) := if a0_0 = a1_0 then ((laws_eqInt64SS.f k l0_1 l1_1).bind fun t131 => (if t131 = true then (some true) else (some false))) else (some false)
theorem laws_eqTable.mono : ∀ a0 a1 a2 a3 k, LeO (laws_eqTable.f k a0 a1 a2 a3) (laws_eqTable.f (k + 1) a0 a1 a2 a3) := by
  intro a0 a1 a2 a3 k
  unfold laws_eqTable.f
  repeat' first | (with_reducible first | apply laws_eqInt64SS.mono | exact LeO.refl _ | exact LeO.none _ | refine LeO.ite ?_ ?_ | refine LeO.bind ?_ (fun _ => ?_)) | apply laws_eqInt64SS.mono | exact LeO.none _ | refine LeO.ite ?_ ?_ | refine LeO.bind ?_ (fun _ => ?_)
set_option maxHeartbeats 8000000 in
set_option maxRecDepth 100000 in
theorem laws_eqTable.calls (k : Nat) (a0_0 : Int) (A0_1 : Option Addr) (c0_1 : Nat) (l0_1 : List (List Int)) (a1_0 : Int) (A1_1 : Option Addr) (c1_1 : Nat) (l1_1 : List (List Int)) (r : Bool) (w : World) (hr0_1 : Kd.C (Kd.slice 2 (Kd.int .i64)) w A0_1 l0_1.length l0_1) (hc0_1 : l0_1.length ≤ c0_1) (hr1_1 : Kd.C (Kd.slice 2 (Kd.int .i64)) w A1_1 l1_1.length l1_1) (hc1_1 : l1_1.length ≤ c1_1) (h : laws_eqTable.f k a0_0 l0_1 a1_0 l1_1 = some r) :
    Calls Try.prog 9 #[.agg #[.int .i64 a0_0, .slice A0_1 l0_1.length c0_1], .agg #[.int .i64 a1_0, .slice A1_1 l1_1.length c1_1]] w fun e w' => e = .returned (.bool r) ∧ Below w.heap.size w w' := by
 have hu28 := Try.underlying28; have HR0_1 := mA hr0_1; have HC0_1 := mA hc0_1; clear hr0_1 hc0_1; have HR1_1 := mA hr1_1; have HC1_1 := mA hc1_1; clear hr1_1 hc1_1; have HB := mA (Below.refl w.heap.size w); have H : (if a0_0 = a1_0 then ((laws_eqInt64SS.f k l0_1 l1_1).bind fun t131 => (if t131 = true then (some true) else (some false))) else (some false)) = some r := h; clear h; refine sqC (a0_0 = a1_0) (fun c3 => ?_) (fun c3 => ?_)
 ·rw [if_neg c3] at H; have c3b0 : (a0_0 == a1_0) = false := beq_eq_false_iff_ne.mpr c3; have c3b1 : (a0_0 != a1_0) = true := bne_iff_ne.mpr c3; obtain rfl := Option.some.inj H; go_enter Try.func9, Try.ntmps9; go_wp2_with (first | (refine sqX 2 #[.int .i64 a0_0, .slice A0_1 l0_1.length c0_1] 28 ?_; intro gb129 hg w18 hbox hb; have BK129 := mA (hbox); have GW129 := mA ((zq9 : w.heap.size ≤ gb129)); have GE129 := mA ((zq9 : w.heap.size ≤ gb129)); replace HB := mA (below_step zq3 hb); clear hb hbox hg) | (refine sqX 3 #[.int .i64 a1_0, .slice A1_1 l1_1.length c1_1] 28 ?_; intro gb130 hg w19 hbox hb; have BK130 := mA (hbox); have GW130 := mA ((zq8 : w.heap.size ≤ gb130)); have GE130 := mA ((zq8 : w.heap.size ≤ gb130)); replace HB := mA (below_step zq1 hb); have NB129_130 := mA ((zq68 BK129 : gb129 ≠ gb130)); have NB130_129 := mA ((zq69 BK129 : gb130 ≠ gb129)); replace BK129 := mA (blkb hb BK129.out); clear hb hbox hg; have hnb20 := NB129_130.out; have hnc20 := NB130_129.out; obtain ⟨hcz21_0, hfz21_0⟩ := sqW0 BK129; obtain ⟨hcz21_1, hfz21_1⟩ := sqW1 BK129; obtain ⟨hcz22_0, hfz22_0⟩ := sqW0 BK130; obtain ⟨hcz22_1, hfz22_1⟩ := sqW1 BK130)); go_ret; exact ⟨zq6, zq1⟩
 rw [if_pos c3] at H; have c3b0 : (a0_0 == a1_0) = true := beq_iff_eq.mpr c3; have c3b1 : (a0_0 != a1_0) = false := bne_eq_false_iff_eq.mpr c3; clear c3; obtain ⟨t131, A4, H⟩ := sqB H; by_cases c5 : t131 = true
 ·subst c5; rw [if_pos rfl] at H; obtain rfl := Option.some.inj H; go_enter Try.func9, Try.ntmps9
  go_wp2_with (first | (refine sqX 2 #[.int .i64 a0_0, .slice A0_1 l0_1.length c0_1] 28 ?_; intro gb129 hg w6 hbox hb; have BK129 := mA (hbox); have GW129 := mA ((zq9 : w.heap.size ≤ gb129)); have GE129 := mA ((zq9 : w.heap.size ≤ gb129)); replace HB := mA (below_step zq3 hb); clear hb hbox hg) | (refine sqX 3 #[.int .i64 a1_0, .slice A1_1 l1_1.length c1_1] 28 ?_; intro gb130 hg w7 hbox hb; have BK130 := mA (hbox); have GW130 := mA ((zq8 : w.heap.size ≤ gb130)); have GE130 := mA ((zq8 : w.heap.size ≤ gb130)); replace HB := mA (below_step zq1 hb); have NB129_130 := mA ((zq68 BK129 : gb129 ≠ gb130)); have NB130_129 := mA ((zq69 BK129 : gb130 ≠ gb129)); replace BK129 := mA (blkb hb BK129.out); clear hb hbox hg; have hnb8 := NB129_130.out; have hnc8 := NB130_129.out; obtain ⟨hcz9_0, hfz9_0⟩ := sqW0 BK129; obtain ⟨hcz9_1, hfz9_1⟩ := sqW1 BK129; obtain ⟨hcz10_0, hfz10_0⟩ := sqW0 BK130; obtain ⟨hcz10_1, hfz10_1⟩ := sqW1 BK130) | (refine sqG 12 (some 14) Try.func12 #[.slice A0_1 l0_1.length c0_1, .slice A1_1 l1_1.length c1_1] (h := ?_); (with_reducible refine (laws_eqInt64SS.calls k _ _ l0_1 _ _ l1_1 true _ ?s1 ?s2 ?s3 ?s4 A4.out).mono ?_); (case s1 => exact zq7 HR0_1); (case s2 => exact HC0_1.out); (case s3 => exact zq7 HR1_1); (case s4 => exact HC1_1.out); rintro e w11 ⟨rfl, hb⟩; refine ⟨_, rfl, ?_⟩; replace BK129 := mA (blkb hb BK129.out); replace BK130 := mA (blkb hb BK130.out); replace HB := mA (below_step zq1 hb); (try clear hb)))
  go_ret; exact ⟨zq6, zq1⟩
 replace c5 := Bool.eq_false_iff.mpr c5; subst c5; rw [if_neg (show ¬ (false = true) by decide)] at H; obtain rfl := Option.some.inj H; go_enter Try.func9, Try.ntmps9
 go_wp2_with (first | (refine sqX 2 #[.int .i64 a0_0, .slice A0_1 l0_1.length c0_1] 28 ?_; intro gb129 hg w12 hbox hb; have BK129 := mA (hbox); have GW129 := mA ((zq9 : w.heap.size ≤ gb129)); have GE129 := mA ((zq9 : w.heap.size ≤ gb129)); replace HB := mA (below_step zq3 hb); clear hb hbox hg) | (refine sqX 3 #[.int .i64 a1_0, .slice A1_1 l1_1.length c1_1] 28 ?_; intro gb130 hg w13 hbox hb; have BK130 := mA (hbox); have GW130 := mA ((zq8 : w.heap.size ≤ gb130)); have GE130 := mA ((zq8 : w.heap.size ≤ gb130)); replace HB := mA (below_step zq1 hb); have NB129_130 := mA ((zq68 BK129 : gb129 ≠ gb130)); have NB130_129 := mA ((zq69 BK129 : gb130 ≠ gb129)); replace BK129 := mA (blkb hb BK129.out); clear hb hbox hg; have hnb14 := NB129_130.out; have hnc14 := NB130_129.out; obtain ⟨hcz15_0, hfz15_0⟩ := sqW0 BK129; obtain ⟨hcz15_1, hfz15_1⟩ := sqW1 BK129; obtain ⟨hcz16_0, hfz16_0⟩ := sqW0 BK130; obtain ⟨hcz16_1, hfz16_1⟩ := sqW1 BK130) | (refine sqG 12 (some 14) Try.func12 #[.slice A0_1 l0_1.length c0_1, .slice A1_1 l1_1.length c1_1] (h := ?_); (with_reducible refine (laws_eqInt64SS.calls k _ _ l0_1 _ _ l1_1 false _ ?s1 ?s2 ?s3 ?s4 A4.out).mono ?_); (case s1 => exact zq7 HR0_1); (case s2 => exact HC0_1.out); (case s3 => exact zq7 HR1_1); (case s4 => exact HC1_1.out); rintro e w17 ⟨rfl, hb⟩; refine ⟨_, rfl, ?_⟩; replace BK129 := mA (blkb hb BK129.out); replace BK130 := mA (blkb hb BK130.out); replace HB := mA (below_step zq1 hb); (try clear hb)))
 go_ret; exact ⟨zq6, zq1⟩

/-! ### spec_l00In: function 35 -/
def spec_l00In.f (a0 : Int) (a1 : Int) (a2 : Int) : Option (Bool) := if a0 ≥ a1 then (some (decide (a0 ≤ a2))) else (some false)
set_option maxHeartbeats 8000000 in
set_option maxRecDepth 100000 in
theorem spec_l00In.calls (a0 : Int) (a1 : Int) (a2 : Int) (r : Bool) (w : World) (h : spec_l00In.f a0 a1 a2 = some r) :
    Calls Try.prog 35 #[.int .i64 a0, .int .i64 a1, .int .i64 a2] w fun e w' => e = .returned (.bool r) ∧ Drawn0 w w' := by
 have H : (if a0 ≥ a1 then (some (decide (a0 ≤ a2))) else (some false)) = some r := h; clear h; by_cases c4 : a0 ≥ a1
 ·rw [if_pos c4] at H; have c4b0 : decide (a1 ≤ a0) = true := decide_eq_true c4; clear c4; obtain rfl := Option.some.inj H; go_enter Try.func35, Try.ntmps35; go_wp2; go_ret; exact ⟨zq4, zq10⟩
 rw [if_neg c4] at H; have c4b0 : decide (a1 ≤ a0) = false := decide_eq_false c4; clear c4; obtain rfl := Option.some.inj H; go_enter Try.func35, Try.ntmps35; go_wp2; go_ret; exact ⟨zq4, zq10⟩

/-! ### spec_l05Side: function 36 -/
def spec_l05Side.f (a0 : Int) : Option (Bool) := if a0 ≥ 1 then (some (decide (a0 ≤ 5))) else (some false)
set_option maxHeartbeats 8000000 in
set_option maxRecDepth 100000 in
theorem spec_l05Side.calls (a0 : Int) (r : Bool) (w : World) (h : spec_l05Side.f a0 = some r) :
    Calls Try.prog 36 #[.int .i64 a0] w fun e w' => e = .returned (.bool r) ∧ Drawn0 w w' := by
 have H : (if a0 ≥ 1 then (some (decide (a0 ≤ 5))) else (some false)) = some r := h; clear h; by_cases c2 : a0 ≥ 1
 ·rw [if_pos c2] at H; have c2b0 : decide (1 ≤ a0) = true := decide_eq_true c2; clear c2; obtain rfl := Option.some.inj H; go_enter Try.func36, Try.ntmps36; go_wp2; go_ret; exact ⟨zq4, zq10⟩
 rw [if_neg c2] at H; have c2b0 : decide (1 ≤ a0) = false := decide_eq_false c2; clear c2; obtain rfl := Option.some.inj H; go_enter Try.func36, Try.ntmps36; go_wp2; go_ret; exact ⟨zq4, zq10⟩

end Go.Proofs.Ytdcglkdgepdnpaa.PFnExactNearestTable
