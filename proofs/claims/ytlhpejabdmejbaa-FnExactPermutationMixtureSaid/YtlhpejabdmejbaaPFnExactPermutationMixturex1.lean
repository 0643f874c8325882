/- Written by this session's program (wip/tool/xprint.py) over the kit's printer. -/
import Derived.Test.YtlhpejabdmejbaaPFnExactPermutationMixturex0
namespace Go.Proofs.Ytlhpejabdmejbaa.PFnExactPermutationMixture
open Go.RowKit Go.Proofs.YtlhpejabdmejbaaW.PrintWords Go.Proofs.YtlhpejabdmejbaaW.PrintLast Go.Proofs.YtlhpejabdmejbaaW.PrintMore
attribute [local go_sem] max2_int min2_int max_two min_two max_three min_three max_four min_four   -- for this text's walks alone
set_option linter.unusedVariables false
set_option linter.unusedSimpArgs false

/-! ### laws_eqInt64S: function 22 -/
def laws_eqInt64S.l0 : Nat → List Int → List Int → Int → Option (Bool)
  | 0, _, _, _ => none
  | k + 1, x0, x1, x5 => if x5 < (x0.length : Int) then (if 0 ≤ x5 then (if x5 < (x1.length : Int) then (if (rd x0 x5) = (rd x1 x5) then (laws_eqInt64S.l0 k x0 x1 (wrap64 (x5 + 1))) else (some false)) else (none)) else (none)) else (some true)
def laws_eqInt64S.f (k : Nat) (l0 : List Int) (l1 : List Int) : Option (Bool) := if (l0.length : Int) = (l1.length : Int) then (laws_eqInt64S.l0 k l0 l1 0) else (some false)
theorem laws_eqInt64S.mono_l : ∀ k, (∀ y0 y1 y2, LeO (laws_eqInt64S.l0 k y0 y1 y2) (laws_eqInt64S.l0 (k + 1) y0 y1 y2))
  | 0 => fun _ _ _ r h => by simp [laws_eqInt64S.l0] at h
  | k + 1 => by
   have ih0 := laws_eqInt64S.mono_l k
   intros
   unfold laws_eqInt64S.l0
   all_goals repeat' first | (with_reducible first | apply ih0 | exact LeO.refl _ | exact LeO.none _ | refine LeO.ite ?_ ?_ | refine LeO.bind ?_ (fun _ => ?_)) | apply ih0 | exact LeO.none _ | refine LeO.ite ?_ ?_ | refine LeO.bind ?_ (fun _ => ?_)
theorem laws_eqInt64S.mono : ∀ a0 a1 k, LeO (laws_eqInt64S.f k a0 a1) (laws_eqInt64S.f (k + 1) a0 a1) := by
  intro a0 a1 k
  have ih0 := laws_eqInt64S.mono_l k
  unfold laws_eqInt64S.f
  repeat' first | (with_reducible first | apply ih0 | exact LeO.refl _ | exact LeO.none _ | refine LeO.ite ?_ ?_ | refine LeO.bind ?_ (fun _ => ?_)) | apply ih0 | exact LeO.none _ | refine LeO.ite ?_ ?_ | refine LeO.bind ?_ (fun _ => ?_)
set_option maxHeartbeats 8000000 in
set_option maxRecDepth 100000 in
theorem laws_eqInt64S.calls (k : Nat) (A0 : Option Addr) (c0 : Nat) (l0 : List Int) (A1 : Option Addr) (c1 : Nat) (l1 : List Int) (r : Bool) (w : World) (hr0 : Kd.C (Kd.int .i64) w A0 l0.length l0) (hc0 : l0.length ≤ c0) (hr1 : Kd.C (Kd.int .i64) w A1 l1.length l1) (hc1 : l1.length ≤ c1) (h : laws_eqInt64S.f k l0 l1 = some r) :
    Calls Try.prog 22 #[.slice A0 l0.length c0, .slice A1 l1.length c1] w fun e w' => e = .returned (.bool r) ∧ Drawn0 w w' := by
 have HR0 := mA hr0; have HC0 := mA hc0; clear hr0 hc0; have HR1 := mA hr1; have HC1 := mA hc1; clear hr1 hc1; have H : (if (l0.length : Int) = (l1.length : Int) then (laws_eqInt64S.l0 k l0 l1 0) else (some false)) = some r := h; clear h; refine sqC ((l0.length : Int) = (l1.length : Int)) (fun c3 => ?_) (fun c3 => ?_)
 ·rw [if_neg c3] at H; have c3b0 : ((l0.length : Int) == (l1.length : Int)) = false := beq_eq_false_iff_ne.mpr c3; have c3b1 : ((l0.length : Int) != (l1.length : Int)) = true := bne_iff_ne.mpr c3
  have c3b2 : (l0.length == l1.length) = false := by first | simpa using c3 | (simp at c3 ⊢; omega)
  obtain rfl := Option.some.inj H; go_enter Try.func22, Try.ntmps22; go_wp2
  repeat (go_quiet (fail); try go_wp2)
  go_ret; exact ⟨zq4, zq8⟩
 rw [if_pos c3] at H; have c3b0 : ((l0.length : Int) == (l1.length : Int)) = true := beq_iff_eq.mpr c3; have c3b1 : ((l0.length : Int) != (l1.length : Int)) = false := bne_eq_false_iff_eq.mpr c3
 have c3b2 : (l0.length == l1.length) = true := by first | simpa using c3 | (simp at c3 ⊢; omega)
 clear c3; have H' := mA H; clear H; go_enter Try.func22, Try.ntmps22; go_wp2
 repeat (go_quiet (fail); try go_wp2)
 go_loopg [5] k (fun kq v5 w' => ∃ (x5_1 : Int), v5 = .int .i64 x5_1 ∧ Aside0 (laws_eqInt64S.l0 kq l0 l1 x5_1 = some r) ∧ Aside0 (kq ≤ k) ∧ Drawn0 w w')
 case atStart => exact ⟨(0), zq4, H', ⟨Nat.le_refl _⟩, zq8⟩
 case round =>
  clear H'; (try clear c1); (try clear c3); (try clear c3b0); (try clear c3b1); (try clear c3b2); obtain ⟨x5_1, rfl, HA, HK1, ⟨m1, rfl⟩⟩ := hrel
  cases gk with
  | zero => exact absurd HA.out (by simp [laws_eqInt64S.l0])
  | succ k1 =>
   have H := HA.out; clear HA; simp only [laws_eqInt64S.l0] at H; refine sqC (x5_1 < (l0.length : Int)) (fun c4 => ?_) (fun c4 => ?_)
   ·rw [if_neg c4] at H; have c4b0 : decide (x5_1 < (l0.length : Int)) = false := decide_eq_false c4; clear c4; obtain rfl := Option.some.inj H; go_wp2
    repeat (go_quiet (fail); try go_wp2)
    go_ret; exact ⟨zq4, zq8⟩
   rw [if_pos c4] at H; have c4b0 : decide (x5_1 < (l0.length : Int)) = true := decide_eq_true c4; clear c4; obtain ⟨c5, H⟩ := sqI H; replace c5 := decide_eq_true c5; obtain ⟨c6, H⟩ := sqI H; replace c6 := decide_eq_true c6; refine sqC ((rd l0 x5_1) = (rd l1 x5_1)) (fun c7 => ?_) (fun c7 => ?_)
   ·rw [if_neg c7] at H; have c7b0 : ((rd l0 x5_1) == (rd l1 x5_1)) = false := beq_eq_false_iff_ne.mpr c7; have c7b1 : ((rd l0 x5_1) != (rd l1 x5_1)) = true := bne_iff_ne.mpr c7; obtain rfl := Option.some.inj H; have p101 : 0 ≤ (x5_1 : Int) := sqd; have q101 : x5_1 < (l0.length : Int) := sqd; obtain ⟨ad101, e101, hx101_0⟩ := Kd.at_int HR0.out x5_1 p101 q101
    cases e101
    replace p101 := eq_true p101; replace q101 := eq_true q101; have p102 : 0 ≤ (x5_1 : Int) := sqd; have q102 : x5_1 < (l1.length : Int) := sqd; obtain ⟨ad102, e102, hx102_0⟩ := Kd.at_int HR1.out x5_1 p102 q102
    cases e102
    replace p102 := eq_true p102; replace q102 := eq_true q102; go_wp2
    repeat (go_quiet (fail); try go_wp2)
    go_ret; exact ⟨zq4, zq8⟩
   rw [if_pos c7] at H; have c7b0 : ((rd l0 x5_1) == (rd l1 x5_1)) = true := beq_iff_eq.mpr c7; have c7b1 : ((rd l0 x5_1) != (rd l1 x5_1)) = false := bne_eq_false_iff_eq.mpr c7; clear c7; have H' := mA H; clear H; have p101 : 0 ≤ (x5_1 : Int) := sqd; have q101 : x5_1 < (l0.length : Int) := sqd; obtain ⟨ad101, e101, hx101_0⟩ := Kd.at_int HR0.out x5_1 p101 q101
   cases e101
   replace p101 := eq_true p101; replace q101 := eq_true q101; have p102 : 0 ≤ (x5_1 : Int) := sqd; have q102 : x5_1 < (l1.length : Int) := sqd; obtain ⟨ad102, e102, hx102_0⟩ := Kd.at_int HR1.out x5_1 p102 q102
   cases e102
   replace p102 := eq_true p102; replace q102 := eq_true q102; go_wp2
   repeat (go_quiet (fail); try go_wp2)
   go_roundg k1
   case measure => have := HK1.out; omega
   case rel => exact ⟨(wrap64 (x5_1 + 1)), zq4, H', ⟨by have := HK1.out; omega⟩, zq8⟩

/-! ### laws_eqInt64SS: function 39 -/
def laws_eqInt64SS.l0 : Nat → List (List Int) → List (List Int) → Int → Option (Bool)
  | 0, _, _, _ => none
  | k + 1, x0, x1, x5 => if x5 < (x0.length : Int) then (if 0 ≤ x5 then (if x5 < (x1.length : Int) then ((laws_eqInt64S.f k (rd_L1 x0 x5) (rd_L1 x1 x5)).bind fun t105 => (if t105 = true then (laws_eqInt64SS.l0 k x0 x1 (wrap64 (x5 + 1))) else (some false))) else (none)) else (none)) else (some true)
def laws_eqInt64SS.f (k : Nat) (l0 : List (List Int)) (l1 : List (List Int)) : Option (Bool) := if (l0.length : Int) = (l1.length : Int) then (laws_eqInt64SS.l0 k l0 l1 0) else (some false)
theorem laws_eqInt64SS.mono_l : ∀ k, (∀ y0 y1 y2, LeO (laws_eqInt64SS.l0 k y0 y1 y2) (laws_eqInt64SS.l0 (k + 1) y0 y1 y2))
  | 0 => fun _ _ _ r h => by simp [laws_eqInt64SS.l0] at h
  | k + 1 => by
   have ih0 := laws_eqInt64SS.mono_l k
   intros
   unfold laws_eqInt64SS.l0
   all_goals repeat' first | (with_reducible first | apply ih0 | apply laws_eqInt64S.mono | exact LeO.refl _ | exact LeO.none _ | refine LeO.ite ?_ ?_ | refine LeO.bind ?_ (fun _ => ?_)) | apply ih0 | apply laws_eqInt64S.mono | exact LeO.none _ | refine LeO.ite ?_ ?_ | refine LeO.bind ?_ (fun _ => ?_)
theorem laws_eqInt64SS.mono : ∀ a0 a1 k, LeO (laws_eqInt64SS.f k a0 a1) (laws_eqInt64SS.f (k + 1) a0 a1) := by
  intro a0 a1 k
  have ih0 := laws_eqInt64SS.mono_l k
  unfold laws_eqInt64SS.f
  repeat' first | (with_reducible first | apply ih0 | apply laws_eqInt64S.mono | exact LeO.refl _ | exact LeO.none _ | refine LeO.ite ?_ ?_ | refine LeO.bind ?_ (fun _ => ?_)) | apply ih0 | apply laws_eqInt64S.mono | exact LeO.none _ | refine LeO.ite ?_ ?_ | refine LeO.bind ?_ (fun _ => ?_)
def laws_eqInt64SS.T6 : Bool × List (List Nat × List Nat) := (true, [([], []), ([], []), ([0, 1], [0, 1]), ([2], [2]), ([], []), ([], []), ([4, 5], [4, 5]), ([6], [6]), ([3, 7], [3, 7]), ([8], [8])])
def laws_eqInt64SS.B6 : List Nat := [0, 0, 3, 7, 0, 0, 48, 112, 255, 511]
theorem laws_eqInt64SS.tab6 : rtab .any (opsOf Try.f39 6) = laws_eqInt64SS.T6 := by kernel_rfl
theorem laws_eqInt64SS.bits6 : waitsOk laws_eqInt64SS.T6.2 laws_eqInt64SS.B6 = true := by kernel_rfl
set_option maxHeartbeats 8000000 in
set_option maxRecDepth 100000 in
theorem laws_eqInt64SS.calls (k : Nat) (A0 : Option Addr) (c0 : Nat) (l0 : List (List Int)) (A1 : Option Addr) (c1 : Nat) (l1 : List (List Int)) (r : Bool) (w : World) (hr0 : Kd.C (Kd.slice 2 (Kd.int .i64)) w A0 l0.length l0) (hc0 : l0.length ≤ c0) (hr1 : Kd.C (Kd.slice 2 (Kd.int .i64)) w A1 l1.length l1) (hc1 : l1.length ≤ c1) (h : laws_eqInt64SS.f k l0 l1 = some r) :
    Calls Try.prog 39 #[.slice A0 l0.length c0, .slice A1 l1.length c1] w fun e w' => e = .returned (.bool r) ∧ Below w.heap.size w w' := by
 have HR0 := mA hr0; have HC0 := mA hc0; clear hr0 hc0; have HR1 := mA hr1; have HC1 := mA hc1; clear hr1 hc1; have HB := mA (Below.refl w.heap.size w); have H : (if (l0.length : Int) = (l1.length : Int) then (laws_eqInt64SS.l0 k l0 l1 0) else (some false)) = some r := h; clear h; refine sqC ((l0.length : Int) = (l1.length : Int)) (fun c3 => ?_) (fun c3 => ?_)
 ·rw [if_neg c3] at H; have c3b0 : ((l0.length : Int) == (l1.length : Int)) = false := beq_eq_false_iff_ne.mpr c3; have c3b1 : ((l0.length : Int) != (l1.length : Int)) = true := bne_iff_ne.mpr c3
  have c3b2 : (l0.length == l1.length) = false := by first | simpa using c3 | (simp at c3 ⊢; omega)
  obtain rfl := Option.some.inj H; go_enter Try.func39, Try.ntmps39; go_wp2; go_ret; exact ⟨zq7, zq0⟩
 rw [if_pos c3] at H; have c3b0 : ((l0.length : Int) == (l1.length : Int)) = true := beq_iff_eq.mpr c3; have c3b1 : ((l0.length : Int) != (l1.length : Int)) = false := bne_eq_false_iff_eq.mpr c3
 have c3b2 : (l0.length == l1.length) = true := by first | simpa using c3 | (simp at c3 ⊢; omega)
 clear c3; have H' := mA H; clear H; go_enter Try.func39, Try.ntmps39; go_wp2; go_loopg [5] k (fun kq v5 w' => ∃ (x5_1 : Int), v5 = .int .i64 x5_1 ∧ Aside0 (laws_eqInt64SS.l0 kq l0 l1 x5_1 = some r) ∧ Aside0 (kq ≤ k) ∧ Aside0 (Below w.heap.size w w'))
 case atStart => exact ⟨(0), zq4, H', ⟨Nat.le_refl _⟩, ⟨zq0⟩⟩
 case round =>
  clear H'; (try clear c1); (try clear c3); (try clear c3b0); (try clear c3b1); (try clear c3b2); obtain ⟨x5_1, rfl, HA, HK1, HB⟩ := hrel
  cases gk with
  | zero => exact absurd HA.out (by simp [laws_eqInt64SS.l0])
  | succ k1 =>
   have H := HA.out; clear HA; simp only [laws_eqInt64SS.l0] at H; refine sqC (x5_1 < (l0.length : Int)) (fun c4 => ?_) (fun c4 => ?_)
   ·rw [if_neg c4] at H; have c4b0 : decide (x5_1 < (l0.length : Int)) = false := decide_eq_false c4; clear c4; obtain rfl := Option.some.inj H; go_wp2; go_ret; exact ⟨zq7, zq0⟩
   rw [if_pos c4] at H; have c4b0 : decide (x5_1 < (l0.length : Int)) = true := decide_eq_true c4; clear c4; obtain ⟨c5, H⟩ := sqI H; replace c5 := decide_eq_true c5; obtain ⟨c6, H⟩ := sqI H; replace c6 := decide_eq_true c6; obtain ⟨t105, A7, H⟩ := sqB H; refine sqC (t105 = true) (fun c8 => ?_) (fun c8 => ?_)
   ·replace c8 := Bool.eq_false_iff.mpr c8; subst c8; rw [if_neg (show ¬ (false = true) by decide)] at H; obtain rfl := Option.some.inj H; (try go_wp2); replace HB := mA (below_drew1 HB.out); have p103 : 0 ≤ (x5_1 : Int) := sqd; have q103 : x5_1 < (l0.length : Int) := sqd; obtain ⟨ad103, A103_0, c103_0, e103, hx103_0, hl103_0, hi103_0⟩ := at_L1 HR0.out x5_1 p103 q103; have hw103_0 := hx103_0
    cases e103
    replace hx103_0 := sqh HB hx103_0; have HR103_0 := mA hi103_0; have HC103_0 := mA hl103_0; clear hi103_0 hl103_0; replace p103 := eq_true p103; replace q103 := eq_true q103; have p104 : 0 ≤ (x5_1 : Int) := sqd; have q104 : x5_1 < (l1.length : Int) := sqd; obtain ⟨ad104, A104_0, c104_0, e104, hx104_0, hl104_0, hi104_0⟩ := at_L1 HR1.out x5_1 p104 q104; have hw104_0 := hx104_0
    cases e104
    replace hx104_0 := sqh HB hx104_0; have HR104_0 := mA hi104_0; have HC104_0 := mA hl104_0; clear hi104_0 hl104_0; replace p104 := eq_true p104; replace q104 := eq_true q104; refine start_ (n := 10) (S := fun w' => w'.cell? (ad103.add (x5_1).toNat) = some (.slice A103_0 (rd_L1 l0 x5_1).length c103_0) ∧ w'.cell? (ad104.add (x5_1).toNat) = some (.slice A104_0 (rd_L1 l1 x5_1).length c104_0)) (ds := []) #[false, false, false, false, false, false, false, false, false, false] (by kernel_rfl) rfl rfl ⟨((HB.out.cell (World.block_lt_of_cell? w _ hw103_0)).trans hw103_0), ((HB.out.cell (World.block_lt_of_cell? w _ hw104_0)).trans hw104_0)⟩ (fun hHeld => ?_); refine with_tabW laws_eqInt64SS.tab6 laws_eqInt64SS.bits6 (fun HT_ HW_ => ?_); generalize wr.drew = w10 at HB HR103_0 HR104_0 hx103_0 hx104_0 hHeld ⊢; refine sqr0 0 (some 17) ?_; refine sqr0 1 (some 18) ?_; refine sqr0 2 (some 19) ?_; refine sqr0 4 (some 21) ?_; refine sqr0 5 (some 22) ?_; refine sqr0 6 (some 23) ?_; refine sqr1 3 (some 20) ?_; refine sqr1 7 (some 24) ?_; refine sqr2 8 (some 25) (fun K hK => ?_); refine goes_ Try.func22 (by kernel_rfl) rfl #[.slice A103_0 (rd_L1 l0 x5_1).length c103_0, .slice A104_0 (rd_L1 l1 x5_1).length c104_0] (by rfl) rfl rfl zq23 ?_; (with_reducible refine (laws_eqInt64S.calls k1 _ _ (rd_L1 l0 x5_1) _ _ (rd_L1 l1 x5_1) false _ ?s1 ?s2 ?s3 ?s4 A7.out).mono ?_); (case s1 => exact zq9 HR103_0); (case s2 => exact HC103_0.out); (case s3 => exact zq9 HR104_0); (case s4 => exact HC104_0.out); rintro e w' ⟨rfl, ⟨nd, rfl⟩⟩; refine ⟨_, rfl, ?_⟩; refine hK.out _ _ ⟨((HB.out.cell (World.block_lt_of_cell? w _ hw103_0)).trans hw103_0), ((HB.out.cell (World.block_lt_of_cell? w _ hw104_0)).trans hw104_0)⟩ (fun hHeld => ?_); clear hK K; refine sqr3 ?_; refine sqr0 9 (some 26) ?_; refine done_ (done_of HT_.out (by kernel_rfl)) ?_; (try go_wp2); go_ret; exact ⟨zq7, zq0⟩
   subst c8; rw [if_pos rfl] at H; have H' := mA H; clear H; (try go_wp2); replace HB := mA (below_drew1 HB.out); have p103 : 0 ≤ (x5_1 : Int) := sqd; have q103 : x5_1 < (l0.length : Int) := sqd; obtain ⟨ad103, A103_0, c103_0, e103, hx103_0, hl103_0, hi103_0⟩ := at_L1 HR0.out x5_1 p103 q103; have hw103_0 := hx103_0
   cases e103
   replace hx103_0 := sqh HB hx103_0; have HR103_0 := mA hi103_0; have HC103_0 := mA hl103_0; clear hi103_0 hl103_0; replace p103 := eq_true p103; replace q103 := eq_true q103; have p104 : 0 ≤ (x5_1 : Int) := sqd; have q104 : x5_1 < (l1.length : Int) := sqd; obtain ⟨ad104, A104_0, c104_0, e104, hx104_0, hl104_0, hi104_0⟩ := at_L1 HR1.out x5_1 p104 q104; have hw104_0 := hx104_0
   cases e104
   replace hx104_0 := sqh HB hx104_0; have HR104_0 := mA hi104_0; have HC104_0 := mA hl104_0; clear hi104_0 hl104_0; replace p104 := eq_true p104; replace q104 := eq_true q104; refine start_ (n := 10) (S := fun w' => w'.cell? (ad103.add (x5_1).toNat) = some (.slice A103_0 (rd_L1 l0 x5_1).length c103_0) ∧ w'.cell? (ad104.add (x5_1).toNat) = some (.slice A104_0 (rd_L1 l1 x5_1).length c104_0)) (ds := []) #[false, false, false, false, false, false, false, false, false, false] (by kernel_rfl) rfl rfl ⟨((HB.out.cell (World.block_lt_of_cell? w _ hw103_0)).trans hw103_0), ((HB.out.cell (World.block_lt_of_cell? w _ hw104_0)).trans hw104_0)⟩ (fun hHeld => ?_); refine with_tabW laws_eqInt64SS.tab6 laws_eqInt64SS.bits6 (fun HT_ HW_ => ?_); generalize wr.drew = w9 at HB HR103_0 HR104_0 hx103_0 hx104_0 hHeld ⊢; refine sqr0 0 (some 17) ?_; refine sqr0 1 (some 18) ?_; refine sqr0 2 (some 19) ?_; refine sqr0 4 (some 21) ?_; refine sqr0 5 (some 22) ?_; refine sqr0 6 (some 23) ?_; refine sqr1 3 (some 20) ?_; refine sqr1 7 (some 24) ?_; refine sqr2 8 (some 25) (fun K hK => ?_); refine goes_ Try.func22 (by kernel_rfl) rfl #[.slice A103_0 (rd_L1 l0 x5_1).length c103_0, .slice A104_0 (rd_L1 l1 x5_1).length c104_0] (by rfl) rfl rfl zq23 ?_; (with_reducible refine (laws_eqInt64S.calls k1 _ _ (rd_L1 l0 x5_1) _ _ (rd_L1 l1 x5_1) true _ ?s1 ?s2 ?s3 ?s4 A7.out).mono ?_); (case s1 => exact zq9 HR103_0); (case s2 => exact HC103_0.out); (case s3 => exact zq9 HR104_0); (case s4 => exact HC104_0.out); rintro e w' ⟨rfl, ⟨nd, rfl⟩⟩; refine ⟨_, rfl, ?_⟩; refine hK.out _ _ ⟨((HB.out.cell (World.block_lt_of_cell? w _ hw103_0)).trans hw103_0), ((HB.out.cell (World.block_lt_of_cell? w _ hw104_0)).trans hw104_0)⟩ (fun hHeld => ?_); clear hK K; refine sqr3 ?_; refine sqr0 9 (some 26) ?_; refine done_ (done_of HT_.out (by kernel_rfl)) ?_; (try go_wp2); go_roundg k1
   case measure => have := HK1.out; omega
   case rel => exact ⟨(wrap64 (x5_1 + 1)), zq4, H', ⟨by have := HK1.out; omega⟩, ⟨zq0⟩⟩

/-! ### laws_eqMixture: function 19 -/
def laws_eqMixture.f (k : Nat) (l0_0 : List Int) (l0_1 : List (List Int)) (l1_0 : List Int) (l1_1 : List (List Int)) : Option (Bool) := (laws_eqInt64S.f k l0_0 l1_0).bind fun t108 => (if t108 = true then ((laws_eqInt64SS.f k l0_1 l1_1).bind fun t109 => (if t109 = true then (some true) else (some false))) else (some false))
theorem laws_eqMixture.mono : ∀ a0 a1 a2 a3 k, LeO (laws_eqMixture.f k a0 a1 a2 a3) (laws_eqMixture.f (k + 1) a0 a1 a2 a3) := by
  intro a0 a1 a2 a3 k
  unfold laws_eqMixture.f
  repeat' first | (with_reducible first | apply laws_eqInt64S.mono | apply laws_eqInt64SS.mono | exact LeO.refl _ | exact LeO.none _ | refine LeO.ite ?_ ?_ | refine LeO.bind ?_ (fun _ => ?_)) | apply laws_eqInt64S.mono | apply laws_eqInt64SS.mono | exact LeO.none _ | refine LeO.ite ?_ ?_ | refine LeO.bind ?_ (fun _ => ?_)
set_option maxHeartbeats 8000000 in
set_option maxRecDepth 100000 in
theorem laws_eqMixture.calls (k : Nat) (A0_0 : Option Addr) (c0_0 : Nat) (l0_0 : List Int) (A0_1 : Option Addr) (c0_1 : Nat) (l0_1 : List (List Int)) (A1_0 : Option Addr) (c1_0 : Nat) (l1_0 : List Int) (A1_1 : Option Addr) (c1_1 : Nat) (l1_1 : List (List Int)) (r : Bool) (w : World) (hr0_0 : Kd.C (Kd.int .i64) w A0_0 l0_0.length l0_0) (hc0_0 : l0_0.length ≤ c0_0) (hr0_1 : Kd.C (Kd.slice 2 (Kd.int .i64)) w A0_1 l0_1.length l0_1) (hc0_1 : l0_1.length ≤ c0_1) (hr1_0 : Kd.C (Kd.int .i64) w A1_0 l1_0.length l1_0) (hc1_0 : l1_0.length ≤ c1_0) (hr1_1 : Kd.C (Kd.slice 2 (Kd.int .i64)) w A1_1 l1_1.length l1_1) (hc1_1 : l1_1.length ≤ c1_1) (h : laws_eqMixture.f k l0_0 l0_1 l1_0 l1_1 = some r) :
    Calls Try.prog 19 #[.agg #[.slice A0_0 l0_0.length c0_0, .slice A0_1 l0_1.length c0_1], .agg #[.slice A1_0 l1_0.length c1_0, .slice A1_1 l1_1.length c1_1]] w fun e w' => e = .returned (.bool r) ∧ Below w.heap.size w w' := by
 have hu29 := Try.underlying29; have HR0_0 := mA hr0_0; have HC0_0 := mA hc0_0; clear hr0_0 hc0_0; have HR0_1 := mA hr0_1; have HC0_1 := mA hc0_1; clear hr0_1 hc0_1; have HR1_0 := mA hr1_0; have HC1_0 := mA hc1_0; clear hr1_0 hc1_0; have HR1_1 := mA hr1_1; have HC1_1 := mA hc1_1; clear hr1_1 hc1_1; have HB := mA (Below.refl w.heap.size w); have H : ((laws_eqInt64S.f k l0_0 l1_0).bind fun t108 => (if t108 = true then ((laws_eqInt64SS.f k l0_1 l1_1).bind fun t109 => (if t109 = true then (some true) else (some false))) else (some false))) = some r := h; clear h; obtain ⟨t108, A3, H⟩ := sqB H; refine sqC (t108 = true) (fun c4 => ?_) (fun c4 => ?_)
 ·replace c4 := Bool.eq_false_iff.mpr c4; subst c4; rw [if_neg (show ¬ (false = true) by decide)] at H; obtain rfl := Option.some.inj H; go_enter Try.func19, Try.ntmps19; go_wp2_with (first | (refine sqX 2 #[.slice A0_0 l0_0.length c0_0, .slice A0_1 l0_1.length c0_1] 29 ?_; intro gb106 hg w19 hbox hb; have BK106 := mA (hbox); have GW106 := mA ((zq10 : w.heap.size ≤ gb106)); have GE106 := mA ((zq10 : w.heap.size ≤ gb106)); replace HB := mA (below_step zq0 hb); clear hb hbox hg) | (refine sqX 3 #[.slice A1_0 l1_0.length c1_0, .slice A1_1 l1_1.length c1_1] 29 ?_; intro gb107 hg w20 hbox hb; have BK107 := mA (hbox); have GW107 := mA ((zq16 : w.heap.size ≤ gb107)); have GE107 := mA ((zq16 : w.heap.size ≤ gb107)); replace HB := mA (below_step zq2 hb); have NB106_107 := mA ((zq38 BK106 : gb106 ≠ gb107)); have NB107_106 := mA ((zq39 BK106 : gb107 ≠ gb106)); replace BK106 := mA (blk_below (g := gb106) (o := .cells #[.slice A0_0 l0_0.length c0_0, .slice A0_1 l0_1.length c0_1] 29 (0, 0)) (zq1 BK106) hb); clear hb hbox hg; have hnb21 := NB106_107.out; have hnc21 := NB107_106.out; have hcz22_0 := sqZ0 BK106; have hcz22_1 := sqZ1 BK106; have hfz22_0 := blk_frozen BK106.out 0; have hfz22_1 := blk_frozen BK106.out 1; have hcz23_0 := sqZ0 BK107; have hcz23_1 := sqZ1 BK107; have hfz23_0 := blk_frozen BK107.out 0; have hfz23_1 := blk_frozen BK107.out 1) | (refine sqG 22 (some 9) Try.func22 #[.slice A0_0 l0_0.length c0_0, .slice A1_0 l1_0.length c1_0] (h := ?_); (with_reducible refine (laws_eqInt64S.calls k _ _ l0_0 _ _ l1_0 false _ ?s1 ?s2 ?s3 ?s4 A3.out).mono ?_); (case s1 => exact zq9 HR0_0); (case s2 => exact HC0_0.out); (case s3 => exact zq9 HR1_0); (case s4 => exact HC1_0.out); rintro e w' ⟨rfl, ⟨nd, rfl⟩⟩; refine ⟨_, rfl, ?_⟩)); go_ret
  exact ⟨zq7, zq2⟩
 subst c4; rw [if_pos rfl] at H; obtain ⟨t109, A5, H⟩ := sqB H; by_cases c6 : t109 = true
 ·subst c6; rw [if_pos rfl] at H; obtain rfl := Option.some.inj H; go_enter Try.func19, Try.ntmps19
  go_wp2_with (first | (refine sqX 2 #[.slice A0_0 l0_0.length c0_0, .slice A0_1 l0_1.length c0_1] 29 ?_; intro gb106 hg w7 hbox hb; have BK106 := mA (hbox); have GW106 := mA ((zq10 : w.heap.size ≤ gb106)); have GE106 := mA ((zq10 : w.heap.size ≤ gb106)); replace HB := mA (below_step zq0 hb); clear hb hbox hg) | (refine sqX 3 #[.slice A1_0 l1_0.length c1_0, .slice A1_1 l1_1.length c1_1] 29 ?_; intro gb107 hg w8 hbox hb; have BK107 := mA (hbox); have GW107 := mA ((zq16 : w.heap.size ≤ gb107)); have GE107 := mA ((zq16 : w.heap.size ≤ gb107)); replace HB := mA (below_step zq2 hb); have NB106_107 := mA ((zq38 BK106 : gb106 ≠ gb107)); have NB107_106 := mA ((zq39 BK106 : gb107 ≠ gb106)); replace BK106 := mA (blk_below (g := gb106) (o := .cells #[.slice A0_0 l0_0.length c0_0, .slice A0_1 l0_1.length c0_1] 29 (0, 0)) (zq1 BK106) hb); clear hb hbox hg; have hnb9 := NB106_107.out; have hnc9 := NB107_106.out; have hcz10_0 := sqZ0 BK106; have hcz10_1 := sqZ1 BK106; have hfz10_0 := blk_frozen BK106.out 0; have hfz10_1 := blk_frozen BK106.out 1; have hcz11_0 := sqZ0 BK107; have hcz11_1 := sqZ1 BK107; have hfz11_0 := blk_frozen BK107.out 0; have hfz11_1 := blk_frozen BK107.out 1) | (refine sqG 22 (some 9) Try.func22 #[.slice A0_0 l0_0.length c0_0, .slice A1_0 l1_0.length c1_0] (h := ?_); (with_reducible refine (laws_eqInt64S.calls k _ _ l0_0 _ _ l1_0 true _ ?s1 ?s2 ?s3 ?s4 A3.out).mono ?_); (case s1 => exact zq9 HR0_0); (case s2 => exact HC0_0.out); (case s3 => exact zq9 HR1_0); (case s4 => exact HC1_0.out); rintro e w' ⟨rfl, ⟨nd, rfl⟩⟩; refine ⟨_, rfl, ?_⟩) | (refine sqG 39 (some 15) Try.func39 #[.slice A0_1 l0_1.length c0_1, .slice A1_1 l1_1.length c1_1] (h := ?_); (with_reducible refine (laws_eqInt64SS.calls k _ _ l0_1 _ _ l1_1 true _ ?s1 ?s2 ?s3 ?s4 A5.out).mono ?_); (case s1 => exact zq25 HR0_1); (case s2 => exact HC0_1.out); (case s3 => exact zq25 HR1_1); (case s4 => exact HC1_1.out); rintro e w12 ⟨rfl, hb⟩; refine ⟨_, rfl, ?_⟩; replace BK106 := mA (blk_below (g := gb106) (o := .cells #[.slice A0_0 l0_0.length c0_0, .slice A0_1 l0_1.length c0_1] 29 (0, 0)) (zq1 BK106) hb); replace BK107 := mA (blk_below (g := gb107) (o := .cells #[.slice A1_0 l1_0.length c1_0, .slice A1_1 l1_1.length c1_1] 29 (0, 0)) (zq1 BK107) hb); replace HB := mA (below_step zq2 hb); (try clear hb)))
  go_ret; exact ⟨zq7, zq2⟩
 replace c6 := Bool.eq_false_iff.mpr c6; subst c6; rw [if_neg (show ¬ (false = true) by decide)] at H; obtain rfl := Option.some.inj H; go_enter Try.func19, Try.ntmps19
 go_wp2_with (first | (refine sqX 2 #[.slice A0_0 l0_0.length c0_0, .slice A0_1 l0_1.length c0_1] 29 ?_; intro gb106 hg w13 hbox hb; have BK106 := mA (hbox); have GW106 := mA ((zq10 : w.heap.size ≤ gb106)); have GE106 := mA ((zq10 : w.heap.size ≤ gb106)); replace HB := mA (below_step zq0 hb); clear hb hbox hg) | (refine sqX 3 #[.slice A1_0 l1_0.length c1_0, .slice A1_1 l1_1.length c1_1] 29 ?_; intro gb107 hg w14 hbox hb; have BK107 := mA (hbox); have GW107 := mA ((zq16 : w.heap.size ≤ gb107)); have GE107 := mA ((zq16 : w.heap.size ≤ gb107)); replace HB := mA (below_step zq2 hb); have NB106_107 := mA ((zq38 BK106 : gb106 ≠ gb107)); have NB107_106 := mA ((zq39 BK106 : gb107 ≠ gb106)); replace BK106 := mA (blk_below (g := gb106) (o := .cells #[.slice A0_0 l0_0.length c0_0, .slice A0_1 l0_1.length c0_1] 29 (0, 0)) (zq1 BK106) hb); clear hb hbox hg; have hnb15 := NB106_107.out; have hnc15 := NB107_106.out; have hcz16_0 := sqZ0 BK106; have hcz16_1 := sqZ1 BK106; have hfz16_0 := blk_frozen BK106.out 0; have hfz16_1 := blk_frozen BK106.out 1; have hcz17_0 := sqZ0 BK107; have hcz17_1 := sqZ1 BK107; have hfz17_0 := blk_frozen BK107.out 0; have hfz17_1 := blk_frozen BK107.out 1) | (refine sqG 22 (some 9) Try.func22 #[.slice A0_0 l0_0.length c0_0, .slice A1_0 l1_0.length c1_0] (h := ?_); (with_reducible refine (laws_eqInt64S.calls k _ _ l0_0 _ _ l1_0 true _ ?s1 ?s2 ?s3 ?s4 A3.out).mono ?_); (case s1 => exact zq9 HR0_0); (case s2 => exact HC0_0.out); (case s3 => exact zq9 HR1_0); (case s4 => exact HC1_0.out); rintro e w' ⟨rfl, ⟨nd, rfl⟩⟩; refine ⟨_, rfl, ?_⟩) | (refine sqG 39 (some 15) Try.func39 #[.slice A0_1 l0_1.length c0_1, .slice A1_1 l1_1.length c1_1] (h := ?_); (with_reducible refine (laws_eqInt64SS.calls k _ _ l0_1 _ _ l1_1 false _ ?s1 ?s2 ?s3 ?s4 A5.out).mono ?_); (case s1 => exact zq25 HR0_1); (case s2 => exact HC0_1.out); (case s3 => exact zq25 HR1_1); (case s4 => exact HC1_1.out); rintro e w18 ⟨rfl, hb⟩; refine ⟨_, rfl, ?_⟩; replace BK106 := mA (blk_below (g := gb106) (o := .cells #[.slice A0_0 l0_0.length c0_0, .slice A0_1 l0_1.length c0_1] 29 (0, 0)) (zq1 BK106) hb); replace BK107 := mA (blk_below (g := gb107) (o := .cells #[.slice A1_0 l1_0.length c1_0, .slice A1_1 l1_1.length c1_1] 29 (0, 0)) (zq1 BK107) hb); replace HB := mA (below_step zq2 hb); (try clear hb)))
 go_ret; exact ⟨zq7, zq2⟩

/-! ### laws_markInt64S: function 24 -/
def laws_markInt64S.l0 : Nat → List Int → Int → Int → Option (Int × List Int)
  | 0, _, _, _ => none
  | k + 1, x0, x1, x5 => if x5 < (x0.length : Int) then (if 0 ≤ x5 then (laws_markInt64S.l0 k (x0.set (x5 : Int).toNat x1) (wrap64 (x1 + 1)) (wrap64 (x5 + 1))) else (none)) else (some (x1, x0))
def laws_markInt64S.f (k : Nat) (l0 : List Int) (a1 : Int) : Option (Int × List Int) := laws_markInt64S.l0 k l0 a1 0
theorem laws_markInt64S.mono_l : ∀ k, (∀ y0 y1 y2, LeO (laws_markInt64S.l0 k y0 y1 y2) (laws_markInt64S.l0 (k + 1) y0 y1 y2))
  | 0 => fun _ _ _ r h => by simp [laws_markInt64S.l0] at h
  | k + 1 => by
   have ih0 := laws_markInt64S.mono_l k
   intros
   unfold laws_markInt64S.l0
   all_goals repeat' first | (with_reducible first | apply ih0 | exact LeO.refl _ | exact LeO.none _ | refine LeO.ite ?_ ?_ | refine LeO.bind ?_ (fun _ => ?_)) | apply ih0 | exact LeO.none _ | refine LeO.ite ?_ ?_ | refine LeO.bind ?_ (fun _ => ?_)
theorem laws_markInt64S.mono : ∀ a0 a1 k, LeO (laws_markInt64S.f k a0 a1) (laws_markInt64S.f (k + 1) a0 a1) := by
  intro a0 a1 k
  have ih0 := laws_markInt64S.mono_l k
  unfold laws_markInt64S.f
  repeat' first | (with_reducible first | apply ih0 | exact LeO.refl _ | exact LeO.none _ | refine LeO.ite ?_ ?_ | refine LeO.bind ?_ (fun _ => ?_)) | apply ih0 | exact LeO.none _ | refine LeO.ite ?_ ?_ | refine LeO.bind ?_ (fun _ => ?_)
set_option maxHeartbeats 8000000 in
set_option maxRecDepth 100000 in
theorem laws_markInt64S.calls (k : Nat) (P0_ : Nat → Prop) (u9000_ : Value) (l0 : List Int) (a1 : Int) (r1 : Int) (r2 : List Int) (w0 w : World) (hB : Below w0.heap.size w0 w) (ho0 : Kd.R (Kd.int .i64) 2 w w0.heap.size P0_ u9000_ l0) (h : laws_markInt64S.f k l0 a1 = some (r1, r2)) :
    Calls Try.prog 24 #[u9000_, .int .i64 a1] w fun e w' => e = .returned (.int .i64 r1) ∧ Kd.R (Kd.int .i64) 2 w' w0.heap.size (fun k_ => (P0_ k_ ∨ w.heap.size ≤ k_)) u9000_ r2 ∧ Below w0.heap.size w0 w' ∧ Kept w w' (fun k_ => P0_ k_) := by
 have HO0 := mA (show Kd.R (Kd.int .i64) 2 w w0.heap.size (fun k_ => (P0_ k_ ∨ w.heap.size ≤ k_)) u9000_ l0 from Kd.R_mono ho0 (fun k_ hk => (.inl hk))); have HK := mA (Kept.refl w (fun k_ => P0_ k_)); have HW0 := mA hB.size; have HB := mA hB; clear hB; have H : (laws_markInt64S.l0 k l0 a1 0) = some (r1, r2) := h; clear h; have H' := mA H; clear H; go_enter Try.func24, Try.ntmps24; go_wp2; go_loopg [1, 5] k (fun kq v1 v5 w' => ∃ (x0_1 : List Int) (x1_1 : Int) (x5_1 : Int), v1 = .int .i64 x1_1 ∧ v5 = .int .i64 x5_1 ∧ Aside0 (laws_markInt64S.l0 kq x0_1 x1_1 x5_1 = some (r1, r2)) ∧ Aside0 (kq ≤ k) ∧ Aside0 (Kd.R (Kd.int .i64) 2 w' w0.heap.size (fun k_ => (P0_ k_ ∨ w.heap.size ≤ k_)) u9000_ x0_1) ∧ Aside0 (Kept w w' (fun k_ => P0_ k_)) ∧ Aside0 (Below w0.heap.size w0 w'))
 case atStart => exact ⟨(l0), (a1), (0), zq4, zq4, H', ⟨Nat.le_refl _⟩, ⟨zq3 HO0⟩, ⟨zq6⟩, ⟨zq0⟩⟩
 case round =>
  clear H'; obtain ⟨x0_1, x1_1, x5_1, rfl, rfl, HA, HK1, HO_0, HK, HB⟩ := hrel
  cases gk with
  | zero => exact absurd HA.out (by simp [laws_markInt64S.l0])
  | succ k1 =>
   have H := HA.out; clear HA; simp only [laws_markInt64S.l0] at H; refine sqC (x5_1 < (x0_1.length : Int)) (fun c3 => ?_) (fun c3 => ?_)
   ·rw [if_neg c3] at H; replace c3 := decide_eq_false c3; simp only [Option.some.injEq, Prod.mk.injEq] at H; obtain ⟨rfl, rfl⟩ := H; obtain ⟨Ao9, co9, eo9⟩ := Kd.R_slice HO_0.out; subst eo9; go_wp2; go_ret; exact ⟨zq7, zq3 HO_0, zq0, zq6⟩
   rw [if_pos c3] at H; replace c3 := decide_eq_true c3; obtain ⟨c4, H⟩ := sqI H; have c4b0 : decide (0 ≤ x5_1) = true := decide_eq_true c4; clear c4; obtain ⟨y110, hy110⟩ : ∃ y_ : List Int, y_ = (x0_1.set (x5_1 : Int).toNat x1_1) := ⟨_, rfl⟩
   replace H : (laws_markInt64S.l0 k1 y110 (wrap64 (x1_1 + 1)) (wrap64 (x5_1 + 1))) = some (r1, r2) := by first | (rw [hy110]; with_reducible exact H) | (have H2_ := (Option.bind_some _ _).symm.trans H; rw [hy110]; with_reducible exact H2_) | (have H2_ := (Option.bind_some _ _).symm.trans H; with_reducible exact H2_) | with_reducible exact H | (rw [hy110]; exact H) | exact H
   have Ny110 := mA hy110; clear hy110; have H' := mA H; clear H; obtain ⟨Ao6, co6, eo6⟩ := Kd.R_slice HO_0.out; subst eo6; have p5 : 0 ≤ (x5_1 : Int) := sqd; have q5 : (x5_1 : Int) < ((x0_1.length : Int) : Int) := sqd; obtain ⟨go5, co5, eo5, gb5, gl5, cl5, HG5⟩ := Kd.R_form HO_0.out (by omega); (first | cases eo5 | (injection eo5 with ea_ en_ ec_; (first | subst ea_ | (injection ea_ with ea_; subst ea_)); subst ec_; clear en_)); have GB5 := mA gb5; have GG5 := mA HG5; clear gb5 gl5 HG5; have HMgo5 := mA (show (P0_ go5 ∨ w.heap.size ≤ go5) from (HO_0.out.1 _ rfl)); obtain ⟨hx5_0, hf5_0⟩ := Kd.R_celln 0 HO_0.out (x5_1 : Int) p5 q5; replace p5 := eq_true p5; replace q5 := eq_true q5; have HP7 := Kd.R_putg HO_0.out (x5_1 : Int) x1_1; go_wp2_with (first | ((with_reducible refine gate_store (t := 2) (p := 15) rfl ?_); refine store_event (t := 2) (p := 15) (v := ?vo_w8) (w1 := (wr.setCell ⟨go5, (x5_1 : Int).toNat, none⟩ (.int .i64 x1_1))) ?hg ?ho ?hn ?hr ?_; (case ho => rfl); (case hg => rfl); (case hn => rfl); (case hr => exact zq11); intro w8 hw; have hg : wr.grownBy w8 (some go5) := (by rw [hw]; exact HP7.2); have hp_ : Kd.R (Kd.int .i64) 2 w8 w0.heap.size (fun k_ => (P0_ k_ ∨ w.heap.size ≤ k_)) (.slice (some ⟨go5, 0, none⟩) x0_1.length co6) y110 := (by rw [hw, Ny110.out]; exact HP7.1); clear HP7; replace HB := mA ((by rw [hw]; exact below_set (HB.out) GB5.out : Below w0.heap.size w0 w8)); replace HK := mA (Kept.of_grown (S := (fun k_ => P0_ k_)) hg zq6 (fun k_ e_ => (HO_0.out.1 k_ e_))); replace HO_0 := mA (hp_); clear hg hw hp_)); go_roundg k1
   case measure => have := HK1.out; omega
   case rel => exact ⟨(y110), (wrap64 (x1_1 + 1)), (wrap64 (x5_1 + 1)), zq4, zq4, H', ⟨by have := HK1.out; omega⟩, ⟨zq3 HO_0⟩, ⟨zq6⟩, ⟨zq0⟩⟩

/-! ### laws_markInt64SS: function 40 -/
-- given by hand
def laws_markInt64SS.l0 : Nat → List (List Int) → Int → Int → Option (Int × List (List Int))
  | 0, _, _, _ => none
  | k + 1, x0, x1, x5 => if x5 < (x0.length : Int) then (if 0 ≤ x5 then ((laws_markInt64S.f k (rd_L1 x0 x5) x1).bind fun bt1 => (laws_markInt64SS.l0 k (x0.set (x5 : Int).toNat bt1.2) bt1.1 (wrap64 (x5 + 1)))) else (none)) else (some (x1, x0))
def laws_markInt64SS.f (k : Nat) (l0 : List (List Int)) (a1 : Int) : Option (Int × List (List Int)) := laws_markInt64SS.l0 k l0 a1 0
theorem laws_markInt64SS.mono_l : ∀ k, (∀ y0 y1 y2, LeO (laws_markInt64SS.l0 k y0 y1 y2) (laws_markInt64SS.l0 (k + 1) y0 y1 y2))
  | 0 => fun _ _ _ r h => by simp [laws_markInt64SS.l0] at h
  | k + 1 => by
   have ih0 := laws_markInt64SS.mono_l k
   intros
   unfold laws_markInt64SS.l0
   all_goals repeat' first | (with_reducible first | apply ih0 | apply laws_markInt64S.mono | exact LeO.refl _ | exact LeO.none _ | refine LeO.ite ?_ ?_ | refine LeO.bind ?_ (fun _ => ?_)) | apply ih0 | apply laws_markInt64S.mono | exact LeO.none _ | refine LeO.ite ?_ ?_ | refine LeO.bind ?_ (fun _ => ?_)
theorem laws_markInt64SS.mono : ∀ a0 a1 k, LeO (laws_markInt64SS.f k a0 a1) (laws_markInt64SS.f (k + 1) a0 a1) := by
  intro a0 a1 k
  unfold laws_markInt64SS.f
  exact laws_markInt64SS.mono_l k _ _ _
/-- A row of one's own taken out of rows: its value, what it says, and how it comes back written. -/
theorem laws_markInt64SS.lend {e1 e2 : Nat} {W : World} {base : Nat} {ok : Nat → Prop} {g n cap : Nat} {xs : List (List Int)} (h : Kd.S (Kd.slice e2 (Kd.int .i64)) e1 W base ok (.slice (some ⟨g, 0, none⟩) n cap) xs) (i : Int) (h0 : 0 ≤ i) (h1 : i < n) :
    ∃ (oki : Nat → Prop) (A : Option Addr) (c : Nat), W.cell? ⟨g, i.toNat, none⟩ = some (.slice A (rd_L1 xs i).length c) ∧ Kd.R (Kd.int .i64) e2 W base oki (.slice A (rd_L1 xs i).length c) (rd_L1 xs i) ∧ (∀ k, oki k → ok k) ∧
      ∀ {W1 : World} {ys : List Int}, Kept W W1 oki → Kd.R (Kd.int .i64) e2 W1 base (fun k_ => oki k_ ∨ W.heap.size ≤ k_) (.slice A (rd_L1 xs i).length c) ys → Kd.S (Kd.slice e2 (Kd.int .i64)) e1 W1 base ok (.slice (some ⟨g, 0, none⟩) n cap) (xs.set i.toNat ys) := by
 obtain ⟨oki, cs, hcl, hM, hcc, hoki, hH⟩ := Kd.S_lend h [] i h0 h1; obtain ⟨v, rfl, hR⟩ := hM; obtain ⟨A, c, rfl⟩ := Kd.R_slice hR; refine ⟨oki, A, c, ?_, hR, fun k hk => (hoki k hk).1, fun {W1 ys} hk hR1 => ?_⟩
 ·have hc0 := hcc 0 _ rfl; rw [show (Kd.slice e2 (Kd.int .i64)).sz = 1 from rfl, Nat.mul_one, Nat.add_zero] at hc0; exact hc0
 ·exact Kd.H_back (okp := oki) (Kd.H_step hH (fun k _ hn hlt => hk.2 k hlt hn)) (Kd.M_row (Kd.R_reok rfl hR1 (fun k e_ => hR.1 k e_))) (fun _ hk => hk)
/-- A variable's block is none of rows of another type. -/
theorem laws_markInt64SS.off {W : World} {g t : Nat} {cs : Array Value} {L : List Nat} (hb : W.heap[g]? = some (.cells cs t (0, 0))) (hs : ∃ q, q ∈ L ∧ ∃ cells, W.heap[g]? = some (.cells cells q (0, 0))) (hL : ∀ q, q ∈ L → q ≠ t) : False := by
 obtain ⟨q, hq, cells, hc⟩ := hs; rw [hb] at hc
 injection hc with hc
 injection hc with h1 h2 h3
 exact hL q hq h2.symm
set_option maxHeartbeats 8000000 in
set_option maxRecDepth 100000 in
theorem laws_markInt64SS.calls (k : Nat) (P0_ : Nat → Prop) (u9000_ : Value) (l0 : List (List Int)) (a1 : Int) (r1 : Int) (r2 : List (List Int)) (w0 w : World) (hB : Below w0.heap.size w0 w) (ho0 : Kd.S (Kd.slice 2 (Kd.int .i64)) 22 w w0.heap.size P0_ u9000_ l0) (h : laws_markInt64SS.f k l0 a1 = some (r1, r2)) :
    Calls Try.prog 40 #[u9000_, .int .i64 a1] w fun e w' => e = .returned (.int .i64 r1) ∧ Kd.S (Kd.slice 2 (Kd.int .i64)) 22 w' w0.heap.size P0_ u9000_ r2 ∧ Below w0.heap.size w0 w' ∧ Kept w w' (fun k_ => P0_ k_) := by
 have HO0 := mA ho0; have HK := mA (Kept.refl w (fun k_ => P0_ k_)); have HB := mA hB; clear hB; have H : (laws_markInt64SS.l0 k l0 a1 0) = some (r1, r2) := h; clear h; have H' := mA H; clear H; go_enter Try.func40, Try.ntmps40; go_wp2; go_loopg [1, 5] k (fun kq v1 v5 w' => ∃ (x0_1 : List (List Int)) (x1_1 : Int) (x5_1 : Int), v1 = .int .i64 x1_1 ∧ v5 = .int .i64 x5_1 ∧ Aside0 (laws_markInt64SS.l0 kq x0_1 x1_1 x5_1 = some (r1, r2)) ∧ Aside0 (kq ≤ k) ∧ Aside0 (Kd.S (Kd.slice 2 (Kd.int .i64)) 22 w' w0.heap.size P0_ u9000_ x0_1) ∧ Aside0 (Kept w w' (fun k_ => P0_ k_)) ∧ Aside0 (Below w0.heap.size w0 w'))
 case atStart => exact ⟨(l0), (a1), (0), zq4, zq4, H', ⟨Nat.le_refl _⟩, ⟨zq5 HO0⟩, ⟨zq6⟩, ⟨zq0⟩⟩
 case round =>
  clear H'; obtain ⟨x0_1, x1_1, x5_1, rfl, rfl, HA, HK1, HO_0, HK, HB⟩ := hrel
  cases gk with
  | zero => exact absurd HA.out (by simp [laws_markInt64SS.l0])
  | succ k1 =>
   have H := HA.out; clear HA; simp only [laws_markInt64SS.l0] at H; refine sqC (x5_1 < (x0_1.length : Int)) (fun c3 => ?_) (fun c3 => ?_)
   ·rw [if_neg c3] at H; replace c3 := decide_eq_false c3; obtain ⟨rfl, rfl⟩ := Prod.mk.inj (Option.some.inj H); obtain ⟨Ao9, co9, eo9⟩ := Kd.R_slice (Kd.S_R HO_0.out); subst eo9; go_wp2; go_ret; exact ⟨zq7, (zq5 HO_0), zq0, zq6⟩
   rw [if_pos c3] at H; have c3b0 := decide_eq_true c3; obtain ⟨c4, H⟩ := sqI H; have c4b0 : decide (0 ≤ x5_1) = true := decide_eq_true c4; obtain ⟨⟨t1, t2⟩, A6, H⟩ := sqB H; dsimp only at H; have H' := mA H; clear H; obtain ⟨Ao6, co6, eo6⟩ := Kd.R_slice (Kd.S_R HO_0.out); subst eo6; obtain ⟨go5, co5, eo5, gb5, gl5, cl5, HG5⟩ := Kd.R_form (Kd.S_R HO_0.out) (by omega)
   injection eo5 with ea_ en_ ec_
   subst ea_ ec_; clear en_ gb5 gl5 HG5; obtain ⟨oki, Ai, ci, hx5_0, HRi, Hsub, Hback⟩ := laws_markInt64SS.lend HO_0.out x5_1 c4 c3; have HI := mA HRi; have HS := mA Hsub; have HT := mA (@Hback); clear HRi Hsub Hback; have p5 : 0 ≤ (x5_1 : Int) := c4; have q5 : (x5_1 : Int) < ((x0_1.length : Int) : Int) := c3; clear c3 c4; replace p5 := eq_true p5; replace q5 := eq_true q5; go_wp2_with (first | (refine sqG 24 (some 17) Try.func24 #[.slice Ai (rd_L1 x0_1 x5_1).length ci, .int .i64 x1_1] (hargs := zq17) (h := ?_); (with_reducible refine (laws_markInt64S.calls k1 oki (.slice Ai (rd_L1 x0_1 x5_1).length ci) (rd_L1 x0_1 x5_1) x1_1 t1 t2 w0 _ ?s1 ?s2 A6.out).mono ?_); (case s1 => exact zq0); (case s2 => (with_reducible repeat (first | apply Kd.R_alloc | apply Kd.R_drewN | apply Kd.R_drew)); exact HI.out); rintro e w8 ⟨rfl, hy0, hb, hkp⟩; refine ⟨_, rfl, ?_⟩; have n0_ := mA (HT.out hkp hy0); have n1_ := mA (hb); have n2_ := mA (Kept.then_ (S := fun k_ => P0_ k_) zq6 hkp (fun k_ hs_ => .inl (HS.out k_ hs_))); (clear HO_0 HB HK HT); have HO_0 := n0_; have HB := n1_; have HK := n2_; clear n0_ n1_ n2_ hb hkp hy0)); go_roundg k1
   case measure => have := HK1.out; omega
   case rel => exact ⟨(x0_1.set (x5_1 : Int).toNat t2), (t1), (wrap64 (x5_1 + 1)), zq4, zq4, H', ⟨by have := HK1.out; omega⟩, ⟨zq5 HO_0⟩, ⟨zq6⟩, ⟨zq0⟩⟩

/-! ### laws_markMixture: function 23 -/
-- given by hand
def laws_markMixture.f (k : Nat) (l0_0 : List Int) (l0_1 : List (List Int)) (a1 : Int) : Option (Int × List Int × List (List Int)) := (laws_markInt64S.f k l0_0 a1).bind fun bt1 => ((laws_markInt64SS.f k l0_1 bt1.1).bind fun bt2 => (some (bt2.1, bt1.2, bt2.2)))
theorem laws_markMixture.mono : ∀ a0 a1 a2 k, LeO (laws_markMixture.f k a0 a1 a2) (laws_markMixture.f (k + 1) a0 a1 a2) := by
  intro a0 a1 a2 k
  unfold laws_markMixture.f
  repeat' first | (with_reducible first | apply laws_markInt64S.mono | apply laws_markInt64SS.mono | exact LeO.refl _ | exact LeO.none _ | refine LeO.ite ?_ ?_ | refine LeO.bind ?_ (fun _ => ?_)) | apply laws_markInt64S.mono | apply laws_markInt64SS.mono | exact LeO.none _ | refine LeO.ite ?_ ?_ | refine LeO.bind ?_ (fun _ => ?_)
set_option maxHeartbeats 8000000 in
set_option maxRecDepth 100000 in
theorem laws_markMixture.calls (k : Nat) (P0_0_ : Nat → Prop) (u9000_ : Value) (l0_0 : List Int) (P0_1_ : Nat → Prop) (u9001_ : Value) (l0_1 : List (List Int)) (a1 : Int) (r1 : Int) (r2 : List Int) (r3 : List (List Int)) (w0 w : World) (hB : Below w0.heap.size w0 w) (ho0_0 : Kd.R (Kd.int .i64) 2 w w0.heap.size P0_0_ u9000_ l0_0) (ho0_1 : Kd.S (Kd.slice 2 (Kd.int .i64)) 22 w w0.heap.size P0_1_ u9001_ l0_1) (hap : ∀ k_, P0_1_ k_ → some k_ ≠ u9000_.ownBlock) (h : laws_markMixture.f k l0_0 l0_1 a1 = some (r1, r2, r3)) :
    Calls Try.prog 23 #[.agg #[u9000_, u9001_], .int .i64 a1] w fun e w' => e = .returned (.int .i64 r1) ∧ Kd.R (Kd.int .i64) 2 w' w0.heap.size (fun k_ => some k_ = u9000_.ownBlock) u9000_ r2 ∧ Kd.S (Kd.slice 2 (Kd.int .i64)) 22 w' w0.heap.size P0_1_ u9001_ r3 ∧ Below w0.heap.size w0 w' ∧ Kept w w' (fun k_ => P0_0_ k_ ∨ P0_1_ k_) := by
 have huS := Try.underlying29; obtain ⟨A0_0, c0_0, rfl⟩ := Kd.R_slice ho0_0; obtain ⟨A0_1, c0_1, rfl⟩ := Kd.R_slice (Kd.S_R ho0_1); have HX := mA (fun k e => Kd.R_lt ho0_0 k e); have HO0 := mA (Kd.R_tight rfl ho0_0); have HO1 := mA ho0_1; have HP := mA hap; have HQ := mA (fun k e => ho0_0.1 k e); have HK := mA (Kept.refl w (fun k_ => P0_0_ k_ ∨ P0_1_ k_)); have HB := mA hB; clear hB ho0_0 ho0_1 hap; replace h := Option.bind_eq_some_iff.mp h; obtain ⟨⟨t1, t2⟩, A30, h⟩ := h; have A3 := mA A30; replace h := Option.bind_eq_some_iff.mp h; obtain ⟨⟨t3, t4⟩, A40, h⟩ := h; have A4 := mA A40
 injection h with h
 injection h with h1 h
 injection h with h2 h3
 subst h1 h2 h3; clear A30 A40; go_enter Try.func23, Try.ntmps23
 go_wp2_with (first | (refine sqX 2 #[.slice A0_0 l0_0.length c0_0, .slice A0_1 l0_1.length c0_1] 29 ?_; intro gb103 hg w5 hbox hb; have n0_ := mA (below_step zq0 hb); have n1_ := mA (hbox); have n2_ := mA (Kd.R_below (zq3 HO0) hb); have n3_ := mA (Kd.S_below (zq5 HO1) hb); have n4_ := mA (Kept.below zq6 hb); have n5_ := mA (show w.heap.size ≤ gb103 from (by rw [hg]; exact HK.out.1)); (clear HB HO0 HO1 HK); have HB := n0_; have BK103 := n1_; have HO0 := n2_; have HO1 := n3_; have HK := n4_; have GW103 := n5_; clear n0_ n1_ n2_ n3_ n4_ n5_ hb hbox hg; have hcz6_0 := sqZ0 BK103; have hcz6_1 := sqZ1 BK103; have hfz6_0 := blk_frozen BK103.out 0; have hfz6_1 := blk_frozen BK103.out 1) | (refine sqG 24 (some 8) Try.func24 #[.slice A0_0 l0_0.length c0_0, .int .i64 a1] (hargs := zq17) (h := ?_); (with_reducible refine (laws_markInt64S.calls k (fun k_ => some k_ = (Value.slice A0_0 l0_0.length c0_0).ownBlock) (.slice A0_0 l0_0.length c0_0) l0_0 a1 t1 t2 w0 _ ?s1 ?s2 A3.out).mono ?_); (case s1 => exact zq0); (case s2 => exact zq3 HO0); rintro e w8 ⟨rfl, hy0, hb, hkp⟩; refine ⟨_, rfl, ?_⟩; have n0_ := mA (Kd.S_kept (zq5 HO1) hkp (fun k_ hk_ hs_ => HP.out k_ hk_ hs_)); have n1_ := mA (hb); have n2_ := mA (Kept.then_ (S := fun k_ => P0_0_ k_ ∨ P0_1_ k_) zq6 hkp (fun k_ hs_ => .inl (.inl (HQ.out k_ hs_.symm)))); have n3_ := mA (blk_kept (g := gb103) (zq1 BK103) hkp (fun hs_ => Nat.not_le.2 (HX.out gb103 hs_.symm) GW103.out)); have n5_ := mA (Kd.R_tight rfl hy0); (clear HB HK HO0 HO1 BK103 hcz6_0 hcz6_1 hfz6_0 hfz6_1 hy0); have HO0 := n5_; have HO1 := n0_; have HB := n1_; have HK := n2_; have BK103 := n3_; clear n0_ n1_ n2_ n3_ hb hkp; have hcz8_1 := sqZ1 BK103; have hfz8_1 := blk_frozen BK103.out 1) | (refine sqG 40 (some 12) Try.func40 #[.slice A0_1 l0_1.length c0_1, .int .i64 t1] (hargs := zq17) (h := ?_); (with_reducible refine (laws_markInt64SS.calls k P0_1_ (.slice A0_1 l0_1.length c0_1) l0_1 t1 t3 t4 w0 _ ?s1 ?s2 A4.out).mono ?_); (case s1 => exact zq0); (case s2 => exact zq5 HO1); rintro e w9 ⟨rfl, hy1, hb, hkp⟩; refine ⟨_, rfl, ?_⟩; have n3_ := mA (Kd.R_kept (zq3 HO0) hkp (fun k_ hk_ hs_ => HP.out k_ hs_ hk_)); have n1_ := mA (hb); have n2_ := mA (Kept.then_ (S := fun k_ => P0_0_ k_ ∨ P0_1_ k_) zq6 hkp (fun k_ hs_ => .inl (.inr hs_))); (clear HB HK HO0 HO1 BK103 hcz8_1 hfz8_1); have HB := n1_; have HK := n2_; have HO0 := n3_; have HO1 := mA hy1; clear n1_ n2_ n3_ hb hkp hy1))
 go_ret; exact ⟨zq7, (zq3 HO0), (zq5 HO1), zq0, zq6⟩

end Go.Proofs.Ytlhpejabdmejbaa.PFnExactPermutationMixture
