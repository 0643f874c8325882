/- Written by this session's program (wip/tool/xprint.py) over the kit's printer. -/
import Derived.Test.YtknopokgbechlaaDoorPFnExactReadTablex0
import Derived.Test.YtknopokgbechlaaDoorPFnExactReadTablex4
import Derived.Test.YtknopokgbechlaaDoorPFnExactReadTablex6
import Derived.Test.YtknopokgbechlaaDoorPFnExactReadTablex7
namespace Go.Proofs.YtknopokgbechlaaDoor.PFnExactReadTable
open Go.RowKit Go.Proofs.YtknopokgbechlaaDoorW.PrintWords Go.Proofs.YtknopokgbechlaaDoorW.PrintLast Go.Proofs.YtknopokgbechlaaDoorW.PrintMore
attribute [local go_sem] max2_int min2_int max_two min_two max_three min_three max_four min_four   -- for this text's walks alone
set_option linter.unusedVariables false
set_option linter.unusedSimpArgs false

/-! ### laws_heldInt64S: function 34 -/
def laws_heldInt64S.l0 : Nat → List Int → Int → Int → Option (Int)
  | 0, _, _, _ => none
  | k + 1, x0, x1, x5 => if x5 < (x0.length : Int) then (if 0 ≤ x5 then (if (rd x0 x5) = x1 then (laws_heldInt64S.l0 k x0 (wrap64 (x1 + 1)) (wrap64 (x5 + 1))) else (some (-1))) else (none)) else (some x1)
def laws_heldInt64S.f (k : Nat) (l0 : List Int) (a1 : Int) : Option (Int) := laws_heldInt64S.l0 k l0 a1 0
theorem laws_heldInt64S.mono_l : ∀ k, (∀ y0 y1 y2, LeO (laws_heldInt64S.l0 k y0 y1 y2) (laws_heldInt64S.l0 (k + 1) y0 y1 y2))
  | 0 => fun _ _ _ r h => by simp [laws_heldInt64S.l0] at h
  | k + 1 => by
    have ih0 := laws_heldInt64S.mono_l k
    · intro y0 y1 y2
      unfold laws_heldInt64S.l0
      repeat' first
      | (with_reducible exact ih0 _ _ _)
      | (with_reducible exact LeO.refl _)
      | (with_reducible exact LeO.none _)
      | (with_reducible refine LeO.ite ?_ ?_)
      | (with_reducible refine LeO.bind ?_ (fun _ => ?_))
      | exact ih0 _ _ _
      | exact LeO.none _
      | refine LeO.ite ?_ ?_
      | refine LeO.bind ?_ (fun _ => ?_)
theorem laws_heldInt64S.mono : ∀ a0 a1 k, LeO (laws_heldInt64S.f k a0 a1) (laws_heldInt64S.f (k + 1) a0 a1) := by
  intro a0 a1 k
  have ih0 := laws_heldInt64S.mono_l k
  unfold laws_heldInt64S.f
  repeat' first
      | (with_reducible exact ih0 _ _ _)
      | (with_reducible exact LeO.refl _)
      | (with_reducible exact LeO.none _)
      | (with_reducible refine LeO.ite ?_ ?_)
      | (with_reducible refine LeO.bind ?_ (fun _ => ?_))
      | exact ih0 _ _ _
      | exact LeO.none _
      | refine LeO.ite ?_ ?_
      | refine LeO.bind ?_ (fun _ => ?_)
set_option maxHeartbeats 8000000 in
set_option maxRecDepth 100000 in
theorem laws_heldInt64S.calls (k : Nat) (A0 : Option Addr) (c0 : Nat) (l0 : List Int) (a1 : Int) (r : Int) (w : World) (hr0 : Kd.C (Kd.int .i64) w A0 l0.length l0) (hc0 : l0.length ≤ c0) (h : laws_heldInt64S.f k l0 a1 = some r) :
    Calls Tryd.prog 34 #[.slice A0 l0.length c0, .int .i64 a1] w fun e w' => e = .returned (.int .i64 r) ∧ Drawn0 w w' := by
  have HR0 := Aside0.mk hr0
  have HC0 := Aside0.mk hc0
  clear hr0 hc0
  have H : (laws_heldInt64S.l0 k l0 a1 0) = some r := h
  clear h
  have H' := Aside0.mk H
  clear H
  go_enter Tryd.func34, Tryd.ntmps34
  go_wp2
  go_loopg [1, 5] k (fun kq v1 v5 w' => ∃ (x1_1 : Int) (x5_1 : Int), v1 = .int .i64 x1_1 ∧ v5 = .int .i64 x5_1 ∧ Aside0 (laws_heldInt64S.l0 kq l0 x1_1 x5_1 = some r) ∧ Aside0 (kq ≤ k) ∧ Drawn0 w w')
  case atStart => exact ⟨(a1), (0), (by first | rfl | (simp; done) | (simp [*]; done)), (by first | rfl | (simp; done) | (simp [*]; done)), H', ⟨Nat.le_refl _⟩, by repeat (first | exact Drawn0.refl _ | apply Drawn0.step)⟩
  case round =>
    clear H'
    try clear p2
    obtain ⟨x1_1, x5_1, rfl, rfl, HA, HK1, ⟨m1, rfl⟩⟩ := hrel
    cases gk with
    | zero => exact absurd HA.out (by simp [laws_heldInt64S.l0])
    | succ k1 =>
      have H := HA.out
      clear HA
      simp only [laws_heldInt64S.l0] at H
      by_cases c3 : x5_1 < (l0.length : Int)
      · rw [if_pos c3] at H
        have c3b0 : decide (x5_1 < (l0.length : Int)) = true := decide_eq_true c3
        clear c3
        by_cases c4 : 0 ≤ x5_1
        · rw [if_pos c4] at H
          have c4b0 : decide (0 ≤ x5_1) = true := decide_eq_true c4
          clear c4
          by_cases c5 : (rd l0 x5_1) = x1_1
          · rw [if_pos c5] at H
            have c5b0 : ((rd l0 x5_1) == x1_1) = true := beq_iff_eq.mpr c5
            have c5b1 : ((rd l0 x5_1) != x1_1) = false := bne_eq_false_iff_eq.mpr c5
            clear c5
            have H' := Aside0.mk H
            clear H
            have p212 : 0 ≤ (x5_1 : Int) := of_decide_eq_true (by first | (with_reducible assumption) | assumption)
            have q212 : x5_1 < (l0.length : Int) := of_decide_eq_true (by first | (with_reducible assumption) | assumption)
            obtain ⟨ad212, e212, hx212_0⟩ := Kd.at_int HR0.out x5_1 p212 q212
            cases e212
            replace p212 := eq_true p212
            replace q212 := eq_true q212
            go_wp2
            go_roundg k1
            case measure => have := HK1.out; omega
            case rel => exact ⟨(wrap64 (x1_1 + 1)), (wrap64 (x5_1 + 1)), (by first | rfl | (simp; done) | (simp [*]; done)), (by first | rfl | (simp; done) | (simp [*]; done)), H', ⟨by have := HK1.out; omega⟩, by repeat (first | exact Drawn0.refl _ | apply Drawn0.step)⟩
          · rw [if_neg c5] at H
            have c5b0 : ((rd l0 x5_1) == x1_1) = false := beq_eq_false_iff_ne.mpr c5
            have c5b1 : ((rd l0 x5_1) != x1_1) = true := bne_iff_ne.mpr c5
            obtain rfl := Option.some.inj H
            have p212 : 0 ≤ (x5_1 : Int) := of_decide_eq_true (by first | (with_reducible assumption) | assumption)
            have q212 : x5_1 < (l0.length : Int) := of_decide_eq_true (by first | (with_reducible assumption) | assumption)
            obtain ⟨ad212, e212, hx212_0⟩ := Kd.at_int HR0.out x5_1 p212 q212
            cases e212
            replace p212 := eq_true p212
            replace q212 := eq_true q212
            go_wp2
            go_ret
            exact ⟨by first | rfl | (simp; done) | (simp [*]; done), by repeat (first | exact Drawn0.refl _ | apply Drawn0.step)⟩
        · rw [if_neg c4] at H
          exact absurd H (by simp)
      · rw [if_neg c3] at H
        have c3b0 : decide (x5_1 < (l0.length : Int)) = false := decide_eq_false c3
        clear c3
        obtain rfl := Option.some.inj H
        go_wp2
        go_ret
        exact ⟨by first | rfl | (simp; done) | (simp [*]; done), by repeat (first | exact Drawn0.refl _ | apply Drawn0.step)⟩

/-! ### laws_heldInt64SS: function 17 -/
def laws_heldInt64SS.l0 : Nat → List (List Int) → Int → Int → Option (Int)
  | 0, _, _, _ => none
  | k + 1, x0, x1, x5 => if x5 < (x0.length : Int) then (if 0 ≤ x5 then ((laws_heldInt64S.f k (rd_L2 x0 x5) x1).bind fun t214 => (if t214 < 0 then (some (-1)) else (laws_heldInt64SS.l0 k x0 t214 (wrap64 (x5 + 1))))) else (none)) else (some x1)
def laws_heldInt64SS.f (k : Nat) (l0 : List (List Int)) (a1 : Int) : Option (Int) := laws_heldInt64SS.l0 k l0 a1 0
theorem laws_heldInt64SS.mono_l : ∀ k, (∀ y0 y1 y2, LeO (laws_heldInt64SS.l0 k y0 y1 y2) (laws_heldInt64SS.l0 (k + 1) y0 y1 y2))
  | 0 => fun _ _ _ r h => by simp [laws_heldInt64SS.l0] at h
  | k + 1 => by
    have ih0 := laws_heldInt64SS.mono_l k
    · intro y0 y1 y2
      unfold laws_heldInt64SS.l0
      repeat' first
      | (with_reducible exact ih0 _ _ _)
      | (with_reducible exact laws_heldInt64S.mono _ _ _)
      | (with_reducible exact LeO.refl _)
      | (with_reducible exact LeO.none _)
      | (with_reducible refine LeO.ite ?_ ?_)
      | (with_reducible refine LeO.bind ?_ (fun _ => ?_))
      | exact ih0 _ _ _
      | exact laws_heldInt64S.mono _ _ _
      | exact LeO.none _
      | refine LeO.ite ?_ ?_
      | refine LeO.bind ?_ (fun _ => ?_)
theorem laws_heldInt64SS.mono : ∀ a0 a1 k, LeO (laws_heldInt64SS.f k a0 a1) (laws_heldInt64SS.f (k + 1) a0 a1) := by
  intro a0 a1 k
  have ih0 := laws_heldInt64SS.mono_l k
  unfold laws_heldInt64SS.f
  repeat' first
      | (with_reducible exact ih0 _ _ _)
      | (with_reducible exact laws_heldInt64S.mono _ _ _)
      | (with_reducible exact LeO.refl _)
      | (with_reducible exact LeO.none _)
      | (with_reducible refine LeO.ite ?_ ?_)
      | (with_reducible refine LeO.bind ?_ (fun _ => ?_))
      | exact ih0 _ _ _
      | exact laws_heldInt64S.mono _ _ _
      | exact LeO.none _
      | refine LeO.ite ?_ ?_
      | refine LeO.bind ?_ (fun _ => ?_)
set_option maxHeartbeats 8000000 in
set_option maxRecDepth 100000 in
theorem laws_heldInt64SS.calls (k : Nat) (A0 : Option Addr) (c0 : Nat) (l0 : List (List Int)) (a1 : Int) (r : Int) (w : World) (hr0 : Kd.C (Kd.slice 2 (Kd.int .i64)) w A0 l0.length l0) (hc0 : l0.length ≤ c0) (h : laws_heldInt64SS.f k l0 a1 = some r) :
    Calls Tryd.prog 17 #[.slice A0 l0.length c0, .int .i64 a1] w fun e w' => e = .returned (.int .i64 r) ∧ Drawn0 w w' := by
  have HR0 := Aside0.mk hr0
  have HC0 := Aside0.mk hc0
  clear hr0 hc0
  have H : (laws_heldInt64SS.l0 k l0 a1 0) = some r := h
  clear h
  have H' := Aside0.mk H
  clear H
  go_enter Tryd.func17, Tryd.ntmps17
  go_wp2
  go_loopg [1, 5] k (fun kq v1 v5 w' => ∃ (x1_1 : Int) (x5_1 : Int), v1 = .int .i64 x1_1 ∧ v5 = .int .i64 x5_1 ∧ Aside0 (laws_heldInt64SS.l0 kq l0 x1_1 x5_1 = some r) ∧ Aside0 (kq ≤ k) ∧ Drawn0 w w')
  case atStart => exact ⟨(a1), (0), (by first | rfl | (simp; done) | (simp [*]; done)), (by first | rfl | (simp; done) | (simp [*]; done)), H', ⟨Nat.le_refl _⟩, by repeat (first | exact Drawn0.refl _ | apply Drawn0.step)⟩
  case round =>
    clear H'
    try clear c1
    try clear p2
    obtain ⟨x1_1, x5_1, rfl, rfl, HA, HK1, ⟨m1, rfl⟩⟩ := hrel
    cases gk with
    | zero => exact absurd HA.out (by simp [laws_heldInt64SS.l0])
    | succ k1 =>
      have H := HA.out
      clear HA
      simp only [laws_heldInt64SS.l0] at H
      by_cases c3 : x5_1 < (l0.length : Int)
      · rw [if_pos c3] at H
        have c3b0 : decide (x5_1 < (l0.length : Int)) = true := decide_eq_true c3
        clear c3
        by_cases c4 : 0 ≤ x5_1
        · rw [if_pos c4] at H
          have c4b0 : decide (0 ≤ x5_1) = true := decide_eq_true c4
          clear c4
          replace H := Option.bind_eq_some_iff.mp H
          obtain ⟨t214, A50, H⟩ := H
          replace H : (if t214 < 0 then (some (-1)) else (laws_heldInt64SS.l0 k1 l0 t214 (wrap64 (x5_1 + 1)))) = some r := H
          have A5 := Aside0.mk A50
          clear A50
          by_cases c6 : t214 < 0
          · rw [if_pos c6] at H
            have c6b0 : decide (t214 < 0) = true := decide_eq_true c6
            clear c6
            obtain rfl := Option.some.inj H
            have p213 : 0 ≤ (x5_1 : Int) := of_decide_eq_true (by first | (with_reducible assumption) | assumption)
            have q213 : x5_1 < (l0.length : Int) := of_decide_eq_true (by first | (with_reducible assumption) | assumption)
            obtain ⟨ad213, A213_0, c213_0, e213, hx213_0, hl213_0, hi213_0⟩ := at_L2 HR0.out x5_1 p213 q213
            cases e213
            have HR213_0 := Aside0.mk hi213_0
            have HC213_0 := Aside0.mk hl213_0
            clear hi213_0 hl213_0
            replace p213 := eq_true p213
            replace q213 := eq_true q213
            go_wp2_with (first | ((with_reducible refine gate_callee (f := 34) rfl ?_); refine goesL_ (some 17) rfl rfl Tryd.func34 (by kernel_rfl) rfl #[.slice A213_0 (rd_L2 l0 x5_1).length c213_0, .int .i64 x1_1] rfl (by (try simp only [List.map_toArray, List.map_cons, List.map_nil]); first | done | rfl | (simp only [List.length_drop, List.length_take]; rfl)) ?_; (with_reducible refine (laws_heldInt64S.calls k1 _ _ (rd_L2 l0 x5_1) x1_1 t214 _ ?side1 ?side2 A5.out).mono ?_); (case side1 => repeat (first | exact HR213_0.out | (with_reducible refine Kd.C_alloc ?_ _) | (with_reducible refine Kd.C_drewN ?_ _) | (with_reducible refine Kd.C_drew ?_))); (case side2 => exact HC213_0.out); rintro e w' ⟨rfl, ⟨nd, rfl⟩⟩; refine ⟨_, rfl, ?_⟩))
            go_ret
            exact ⟨by first | rfl | (simp; done) | (simp [*]; done), by repeat (first | exact Drawn0.refl _ | apply Drawn0.step)⟩
          · rw [if_neg c6] at H
            have c6b0 : decide (t214 < 0) = false := decide_eq_false c6
            clear c6
            have H' := Aside0.mk H
            clear H
            have p213 : 0 ≤ (x5_1 : Int) := of_decide_eq_true (by first | (with_reducible assumption) | assumption)
            have q213 : x5_1 < (l0.length : Int) := of_decide_eq_true (by first | (with_reducible assumption) | assumption)
            obtain ⟨ad213, A213_0, c213_0, e213, hx213_0, hl213_0, hi213_0⟩ := at_L2 HR0.out x5_1 p213 q213
            cases e213
            have HR213_0 := Aside0.mk hi213_0
            have HC213_0 := Aside0.mk hl213_0
            clear hi213_0 hl213_0
            replace p213 := eq_true p213
            replace q213 := eq_true q213
            go_wp2_with (first | ((with_reducible refine gate_callee (f := 34) rfl ?_); refine goesL_ (some 17) rfl rfl Tryd.func34 (by kernel_rfl) rfl #[.slice A213_0 (rd_L2 l0 x5_1).length c213_0, .int .i64 x1_1] rfl (by (try simp only [List.map_toArray, List.map_cons, List.map_nil]); first | done | rfl | (simp only [List.length_drop, List.length_take]; rfl)) ?_; (with_reducible refine (laws_heldInt64S.calls k1 _ _ (rd_L2 l0 x5_1) x1_1 t214 _ ?side1 ?side2 A5.out).mono ?_); (case side1 => repeat (first | exact HR213_0.out | (with_reducible refine Kd.C_alloc ?_ _) | (with_reducible refine Kd.C_drewN ?_ _) | (with_reducible refine Kd.C_drew ?_))); (case side2 => exact HC213_0.out); rintro e w' ⟨rfl, ⟨nd, rfl⟩⟩; refine ⟨_, rfl, ?_⟩))
            go_roundg k1
            case measure => have := HK1.out; omega
            case rel => exact ⟨(t214), (wrap64 (x5_1 + 1)), (by first | rfl | (simp; done) | (simp [*]; done)), (by first | rfl | (simp; done) | (simp [*]; done)), H', ⟨by have := HK1.out; omega⟩, by repeat (first | exact Drawn0.refl _ | apply Drawn0.step)⟩
        · rw [if_neg c4] at H
          exact absurd H (by simp)
      · rw [if_neg c3] at H
        have c3b0 : decide (x5_1 < (l0.length : Int)) = false := decide_eq_false c3
        clear c3
        obtain rfl := Option.some.inj H
        go_wp2
        go_ret
        exact ⟨by first | rfl | (simp; done) | (simp [*]; done), by repeat (first | exact Drawn0.refl _ | apply Drawn0.step)⟩

/-! ### laws_heldTable: function 8 -/
def laws_heldTable.f (k : Nat) (a0_0 : Int) (l0_1 : List (List Int)) (a1 : Int) : Option (Int) := (laws_heldInt64SS.f k l0_1 a1).bind fun t216 => (if t216 < 0 then (some (-1)) else (some t216))
theorem laws_heldTable.mono : ∀ a0 a1 a2 k, LeO (laws_heldTable.f k a0 a1 a2) (laws_heldTable.f (k + 1) a0 a1 a2) := by
  intro a0 a1 a2 k
  unfold laws_heldTable.f
  repeat' first
      | (with_reducible exact laws_heldInt64SS.mono _ _ _)
      | (with_reducible exact LeO.refl _)
      | (with_reducible exact LeO.none _)
      | (with_reducible refine LeO.ite ?_ ?_)
      | (with_reducible refine LeO.bind ?_ (fun _ => ?_))
      | exact laws_heldInt64SS.mono _ _ _
      | exact LeO.none _
      | refine LeO.ite ?_ ?_
      | refine LeO.bind ?_ (fun _ => ?_)
set_option maxHeartbeats 8000000 in
set_option maxRecDepth 100000 in
theorem laws_heldTable.calls (k : Nat) (a0_0 : Int) (A0_1 : Option Addr) (c0_1 : Nat) (l0_1 : List (List Int)) (a1 : Int) (r : Int) (w : World) (hr0_1 : Kd.C (Kd.slice 2 (Kd.int .i64)) w A0_1 l0_1.length l0_1) (hc0_1 : l0_1.length ≤ c0_1) (h : laws_heldTable.f k a0_0 l0_1 a1 = some r) :
    Calls Tryd.prog 8 #[.agg #[.int .i64 a0_0, .slice A0_1 l0_1.length c0_1], .int .i64 a1] w fun e w' => e = .returned (.int .i64 r) ∧ Below w.heap.size w w' := by
  have hu24 := Tryd.underlying24
  have HR0_1 := Aside0.mk hr0_1
  have HC0_1 := Aside0.mk hc0_1
  clear hr0_1 hc0_1
  have HB := Aside0.mk (Below.refl w.heap.size w)
  have H : ((laws_heldInt64SS.f k l0_1 a1).bind fun t216 => (if t216 < 0 then (some (-1)) else (some t216))) = some r := h
  clear h
  replace H := Option.bind_eq_some_iff.mp H
  obtain ⟨t216, A30, H⟩ := H
  replace H : (if t216 < 0 then (some (-1)) else (some t216)) = some r := H
  have A3 := Aside0.mk A30
  clear A30
  by_cases c4 : t216 < 0
  · rw [if_pos c4] at H
    have c4b0 : decide (t216 < 0) = true := decide_eq_true c4
    clear c4
    obtain rfl := Option.some.inj H
    go_enter Tryd.func8, Tryd.ntmps8
    go_wp2_with (first | ((with_reducible refine gate_dst (N := 2) rfl ?_); refine box_event ?hg (N := 2) ?hd (cs := #[.int .i64 a0_0, .slice A0_1 l0_1.length c0_1]) (t := 24) ?hr ?_; (case hd => rfl); (case hg => rfl); (case hr => first | (go_simp; done) | (go_simp; rfl)); intro gb215 hg w5 hbox hb; have n0_ := Aside0.mk (below_step (by repeat (first | (with_reducible first | exact HB.out | apply below_alloc | apply pw_below_drewN | apply below_drew1) | exact HB.out)) hb); have n1_ := Aside0.mk (hbox); have n2_ := Aside0.mk ((by rw [hg]; exact (below_size (by repeat (first | (with_reducible first | exact HB.out | apply below_alloc | apply pw_below_drewN | apply below_drew1) | exact HB.out))) : w.heap.size ≤ gb215)); have n3_ := Aside0.mk ((by rw [hg]; exact (below_size (by repeat (first | (with_reducible first | exact HB.out | apply below_alloc | apply pw_below_drewN | apply below_drew1) | exact HB.out))) : w.heap.size ≤ gb215)); clear HB; have HB := n0_; have BK215 := n1_; have GW215 := n2_; have GE215 := n3_; clear n0_ n1_ n2_ n3_; clear hb hbox hg; have hcz6_0 : w5.cell? ⟨gb215, 0, none⟩ = some (.int .i64 a0_0) := (blk_cell BK215.out 0).trans rfl; have hcz6_1 : w5.cell? ⟨gb215, 1, none⟩ = some (.slice A0_1 l0_1.length c0_1) := (blk_cell BK215.out 1).trans rfl; have hfz6_0 := blk_frozen BK215.out 0; have hfz6_1 := blk_frozen BK215.out 1) | ((with_reducible refine gate_callee (f := 17) rfl ?_); refine goesL_ (some 8) rfl rfl Tryd.func17 (by kernel_rfl) rfl #[.slice A0_1 l0_1.length c0_1, .int .i64 a1] rfl (by (try simp only [List.map_toArray, List.map_cons, List.map_nil]); first | done | rfl | (simp only [List.length_drop, List.length_take]; rfl)) ?_; (with_reducible refine (laws_heldInt64SS.calls k _ _ l0_1 a1 t216 _ ?side1 ?side2 A3.out).mono ?_); (case side1 => repeat (first | exact (Kd.C_below HR0_1.out HB.out) | (with_reducible refine Kd.C_alloc ?_ _) | (with_reducible refine Kd.C_drewN ?_ _) | (with_reducible refine Kd.C_drew ?_))); (case side2 => exact HC0_1.out); rintro e w' ⟨rfl, ⟨nd, rfl⟩⟩; refine ⟨_, rfl, ?_⟩))
    go_ret
    exact ⟨by first | rfl | (simp [errW_none, errW_some] <;> rfl) | (simp [*, errW_none, errW_some] <;> rfl), by repeat (first | (with_reducible first | exact HB.out | apply below_alloc | apply pw_below_drewN | apply below_drew1 | refine below_set ?_ GE215.out) | exact HB.out)⟩
  · rw [if_neg c4] at H
    have c4b0 : decide (t216 < 0) = false := decide_eq_false c4
    clear c4
    obtain rfl := Option.some.inj H
    go_enter Tryd.func8, Tryd.ntmps8
    go_wp2_with (first | ((with_reducible refine gate_dst (N := 2) rfl ?_); refine box_event ?hg (N := 2) ?hd (cs := #[.int .i64 a0_0, .slice A0_1 l0_1.length c0_1]) (t := 24) ?hr ?_; (case hd => rfl); (case hg => rfl); (case hr => first | (go_simp; done) | (go_simp; rfl)); intro gb215 hg w7 hbox hb; have n0_ := Aside0.mk (below_step (by repeat (first | (with_reducible first | exact HB.out | apply below_alloc | apply pw_below_drewN | apply below_drew1) | exact HB.out)) hb); have n1_ := Aside0.mk (hbox); have n2_ := Aside0.mk ((by rw [hg]; exact (below_size (by repeat (first | (with_reducible first | exact HB.out | apply below_alloc | apply pw_below_drewN | apply below_drew1) | exact HB.out))) : w.heap.size ≤ gb215)); have n3_ := Aside0.mk ((by rw [hg]; exact (below_size (by repeat (first | (with_reducible first | exact HB.out | apply below_alloc | apply pw_below_drewN | apply below_drew1) | exact HB.out))) : w.heap.size ≤ gb215)); clear HB; have HB := n0_; have BK215 := n1_; have GW215 := n2_; have GE215 := n3_; clear n0_ n1_ n2_ n3_; clear hb hbox hg; have hcz8_0 : w7.cell? ⟨gb215, 0, none⟩ = some (.int .i64 a0_0) := (blk_cell BK215.out 0).trans rfl; have hcz8_1 : w7.cell? ⟨gb215, 1, none⟩ = some (.slice A0_1 l0_1.length c0_1) := (blk_cell BK215.out 1).trans rfl; have hfz8_0 := blk_frozen BK215.out 0; have hfz8_1 := blk_frozen BK215.out 1) | ((with_reducible refine gate_callee (f := 17) rfl ?_); refine goesL_ (some 8) rfl rfl Tryd.func17 (by kernel_rfl) rfl #[.slice A0_1 l0_1.length c0_1, .int .i64 a1] rfl (by (try simp only [List.map_toArray, List.map_cons, List.map_nil]); first | done | rfl | (simp only [List.length_drop, List.length_take]; rfl)) ?_; (with_reducible refine (laws_heldInt64SS.calls k _ _ l0_1 a1 t216 _ ?side1 ?side2 A3.out).mono ?_); (case side1 => repeat (first | exact (Kd.C_below HR0_1.out HB.out) | (with_reducible refine Kd.C_alloc ?_ _) | (with_reducible refine Kd.C_drewN ?_ _) | (with_reducible refine Kd.C_drew ?_))); (case side2 => exact HC0_1.out); rintro e w' ⟨rfl, ⟨nd, rfl⟩⟩; refine ⟨_, rfl, ?_⟩))
    go_ret
    exact ⟨by first | rfl | (simp [errW_none, errW_some] <;> rfl) | (simp [*, errW_none, errW_some] <;> rfl), by repeat (first | (with_reducible first | exact HB.out | apply below_alloc | apply pw_below_drewN | apply below_drew1 | refine below_set ?_ GE215.out) | exact HB.out)⟩

/-! ### laws_FnExactReadTable: function 3 -/
def laws_FnExactReadTable.f (k : Nat) (a0 : ByteArray) : Option (Bool) := if (a0.size : Int) > 1048576 then (some true) else ((spec_ReadTable.f k a0).bind fun bt101 => ((impl_ReadTable.f k a0).bind fun bt105 => ((laws_eqTable.f k bt105.1 bt105.2.1 bt101.1 bt101.2.1).bind fun t109 => (if t109 = true then (if bt105.2.2 = bt101.2.2 then ((laws_markTable.f k bt105.1 bt105.2.1 1).bind fun bt110 => ((laws_heldTable.f k bt105.1 bt110.2 1).bind fun t112 => (if t112 < 0 then (none) else (if t112 = bt110.1 then ((impl_ReadTable.f k a0).bind fun bt113 => ((laws_eqTable.f k bt113.1 bt113.2.1 bt101.1 bt101.2.1).bind fun t117 => (if t117 = true then (if bt113.2.2 = bt101.2.2 then ((laws_heldTable.f k bt105.1 bt110.2 1).bind fun t118 => (if t118 < 0 then (none) else (if t118 = bt110.1 then (some true) else (none)))) else (none)) else (none)))) else (none))))) else (none)) else (none)))))
theorem laws_FnExactReadTable.R_iv {α : Type} {d : Kd α} {e : Nat} {W W1 : World} {b : Nat} {ok : Nat → Prop} {v : Value} {xs : List α} (hE : d.E = []) (h : d.R e W1 W.heap.size ok v xs) (hb : b ≤ W.heap.size) : d.R e W1 b (fun k_ => ok k_ ∧ some k_ = v.ownBlock ∧ W.heap.size ≤ k_ ∧ k_ < W1.heap.size) v xs := by
  have h1 := Kd.R_bound h
  have h2 := Kd.R_tight hE h
  exact Kd.R_lower (Kd.R_reok hE h2 (fun k_ e_ => ⟨h.1 k_ e_, e_.symm, (h1.1 k_ e_).2.1, (h1.1 k_ e_).2.2.1⟩)) hb
theorem laws_FnExactReadTable.S_iv {α : Type} {d : Kd α} {e : Nat} {W W1 : World} {b : Nat} {ok : Nat → Prop} {v : Value} {xs : List α} (h : Kd.S d e W1 W.heap.size ok v xs) (hb : b ≤ W.heap.size) : Kd.S d e W1 b (fun k_ => ok k_ ∧ W.heap.size ≤ k_ ∧ k_ < W1.heap.size) v xs :=
  Kd.S_lower (Kd.S_mono (Kd.S_bound h) (fun k_ hk_ => ⟨hk_.1, hk_.2.1, hk_.2.2.1⟩)) hb
set_option maxHeartbeats 16000000 in
set_option maxRecDepth 100000 in
theorem laws_FnExactReadTable.calls (k : Nat) (a0 : ByteArray) (r : Bool) (w : World) (h : laws_FnExactReadTable.f k a0 = some r) (hT : TAB w) :
    Calls Tryd.prog 3 #[.string a0] w fun e w' => e = .returned (.bool r) ∧ Below w.heap.size w w' := by
  have HB := Aside0.mk (Below.refl w.heap.size w)
  have H : (if (a0.size : Int) > 1048576 then (some true) else ((spec_ReadTable.f k a0).bind fun bt101 => ((impl_ReadTable.f k a0).bind fun bt105 => ((laws_eqTable.f k bt105.1 bt105.2.1 bt101.1 bt101.2.1).bind fun t109 => (if t109 = true then (if bt105.2.2 = bt101.2.2 then ((laws_markTable.f k bt105.1 bt105.2.1 1).bind fun bt110 => ((laws_heldTable.f k bt105.1 bt110.2 1).bind fun t112 => (if t112 < 0 then (none) else (if t112 = bt110.1 then ((impl_ReadTable.f k a0).bind fun bt113 => ((laws_eqTable.f k bt113.1 bt113.2.1 bt101.1 bt101.2.1).bind fun t117 => (if t117 = true then (if bt113.2.2 = bt101.2.2 then ((laws_heldTable.f k bt105.1 bt110.2 1).bind fun t118 => (if t118 < 0 then (none) else (if t118 = bt110.1 then (some true) else (none)))) else (none)) else (none)))) else (none))))) else (none)) else (none)))))) = some r := h
  clear h
  by_cases c0_ : (a0.size : Int) > 1048576
  · rw [if_pos c0_] at H
    have c0_b0 : decide (1048576 < (a0.size : Int)) = true := decide_eq_true c0_
    have c0_b1 : decide (1048576 < a0.size) = true := decide_eq_true (by omega)
    obtain rfl := Option.some.inj H
    go_enter Tryd.func3, Tryd.ntmps3
    go_wp2
    go_ret
    exact ⟨by first | rfl | (simp [errW_none, errW_some] <;> rfl) | (simp [*, errW_none, errW_some] <;> rfl), by repeat (first | (with_reducible first | exact HB.out | apply below_alloc | apply pw_below_drewN | apply below_drew1) | exact HB.out)⟩
  · rw [if_neg c0_] at H
    have c0_b0 : decide (1048576 < (a0.size : Int)) = false := decide_eq_false c0_
    have c0_b1 : decide (1048576 < a0.size) = false := decide_eq_false (by omega)
    replace H := Option.bind_eq_some_iff.mp H
    obtain ⟨⟨t101, t102, t103⟩, B1_, H⟩ := H
    replace H : ((impl_ReadTable.f k a0).bind fun bt105 => ((laws_eqTable.f k bt105.1 bt105.2.1 t101 t102).bind fun t109 => (if t109 = true then (if bt105.2.2 = t103 then ((laws_markTable.f k bt105.1 bt105.2.1 1).bind fun bt110 => ((laws_heldTable.f k bt105.1 bt110.2 1).bind fun t112 => (if t112 < 0 then (none) else (if t112 = bt110.1 then ((impl_ReadTable.f k a0).bind fun bt113 => ((laws_eqTable.f k bt113.1 bt113.2.1 t101 t102).bind fun t117 => (if t117 = true then (if bt113.2.2 = t103 then ((laws_heldTable.f k bt105.1 bt110.2 1).bind fun t118 => (if t118 < 0 then (none) else (if t118 = bt110.1 then (some true) else (none)))) else (none)) else (none)))) else (none))))) else (none)) else (none)))) = some r := H
    have X1_ := Aside0.mk B1_
    clear B1_
    replace H := Option.bind_eq_some_iff.mp H
    obtain ⟨⟨t105, t106, t107⟩, B4_, H⟩ := H
    replace H : ((laws_eqTable.f k t105 t106 t101 t102).bind fun t109 => (if t109 = true then (if t107 = t103 then ((laws_markTable.f k t105 t106 1).bind fun bt110 => ((laws_heldTable.f k t105 bt110.2 1).bind fun t112 => (if t112 < 0 then (none) else (if t112 = bt110.1 then ((impl_ReadTable.f k a0).bind fun bt113 => ((laws_eqTable.f k bt113.1 bt113.2.1 t101 t102).bind fun t117 => (if t117 = true then (if bt113.2.2 = t103 then ((laws_heldTable.f k t105 bt110.2 1).bind fun t118 => (if t118 < 0 then (none) else (if t118 = bt110.1 then (some true) else (none)))) else (none)) else (none)))) else (none))))) else (none)) else (none))) = some r := H
    have X4_ := Aside0.mk B4_
    clear B4_
    replace H := Option.bind_eq_some_iff.mp H
    obtain ⟨t109, B7_, H⟩ := H
    replace H : (if t109 = true then (if t107 = t103 then ((laws_markTable.f k t105 t106 1).bind fun bt110 => ((laws_heldTable.f k t105 bt110.2 1).bind fun t112 => (if t112 < 0 then (none) else (if t112 = bt110.1 then ((impl_ReadTable.f k a0).bind fun bt113 => ((laws_eqTable.f k bt113.1 bt113.2.1 t101 t102).bind fun t117 => (if t117 = true then (if bt113.2.2 = t103 then ((laws_heldTable.f k t105 bt110.2 1).bind fun t118 => (if t118 < 0 then (none) else (if t118 = bt110.1 then (some true) else (none)))) else (none)) else (none)))) else (none))))) else (none)) else (none)) = some r := H
    have X7_ := Aside0.mk B7_
    clear B7_
    have c8_ : t109 = true := by
      by_cases c_ : t109 = true
      · exact c_
      · rw [if_neg c_] at H; exact absurd H (by simp)
    rw [if_pos c8_] at H
    subst c8_
    have c9_ : t107 = t103 := by
      by_cases c_ : t107 = t103
      · exact c_
      · rw [if_neg c_] at H; exact absurd H (by simp)
    rw [if_pos c9_] at H
    have c9_b0 : (t107 == t103) = true := beq_iff_eq.mpr c9_
    have c9_b1 : (t107 != t103) = false := bne_eq_false_iff_eq.mpr c9_
    replace H := Option.bind_eq_some_iff.mp H
    obtain ⟨⟨t110, t111⟩, B10_, H⟩ := H
    replace H : ((laws_heldTable.f k t105 t111 1).bind fun t112 => (if t112 < 0 then (none) else (if t112 = t110 then ((impl_ReadTable.f k a0).bind fun bt113 => ((laws_eqTable.f k bt113.1 bt113.2.1 t101 t102).bind fun t117 => (if t117 = true then (if bt113.2.2 = t103 then ((laws_heldTable.f k t105 t111 1).bind fun t118 => (if t118 < 0 then (none) else (if t118 = t110 then (some true) else (none)))) else (none)) else (none)))) else (none)))) = some r := H
    have X10_ := Aside0.mk B10_
    clear B10_
    replace H := Option.bind_eq_some_iff.mp H
    obtain ⟨t112, B11_, H⟩ := H
    replace H : (if t112 < 0 then (none) else (if t112 = t110 then ((impl_ReadTable.f k a0).bind fun bt113 => ((laws_eqTable.f k bt113.1 bt113.2.1 t101 t102).bind fun t117 => (if t117 = true then (if bt113.2.2 = t103 then ((laws_heldTable.f k t105 t111 1).bind fun t118 => (if t118 < 0 then (none) else (if t118 = t110 then (some true) else (none)))) else (none)) else (none)))) else (none))) = some r := H
    have X11_ := Aside0.mk B11_
    clear B11_
    have c12_ : ¬ (t112 < 0) := by
      by_cases c_ : t112 < 0
      · rw [if_pos c_] at H; exact absurd H (by simp)
      · exact c_
    rw [if_neg c12_] at H
    have c12_b0 : decide (t112 < 0) = false := decide_eq_false c12_
    have c13_ : t112 = t110 := by
      by_cases c_ : t112 = t110
      · exact c_
      · rw [if_neg c_] at H; exact absurd H (by simp)
    rw [if_pos c13_] at H
    have c13_b0 : (t112 == t110) = true := beq_iff_eq.mpr c13_
    have c13_b1 : (t112 != t110) = false := bne_eq_false_iff_eq.mpr c13_
    replace H := Option.bind_eq_some_iff.mp H
    obtain ⟨⟨t113, t114, t115⟩, B14_, H⟩ := H
    replace H : ((laws_eqTable.f k t113 t114 t101 t102).bind fun t117 => (if t117 = true then (if t115 = t103 then ((laws_heldTable.f k t105 t111 1).bind fun t118 => (if t118 < 0 then (none) else (if t118 = t110 then (some true) else (none)))) else (none)) else (none))) = some r := H
    have X14_ := Aside0.mk B14_
    clear B14_
    replace H := Option.bind_eq_some_iff.mp H
    obtain ⟨t117, B17_, H⟩ := H
    replace H : (if t117 = true then (if t115 = t103 then ((laws_heldTable.f k t105 t111 1).bind fun t118 => (if t118 < 0 then (none) else (if t118 = t110 then (some true) else (none)))) else (none)) else (none)) = some r := H
    have X17_ := Aside0.mk B17_
    clear B17_
    have c18_ : t117 = true := by
      by_cases c_ : t117 = true
      · exact c_
      · rw [if_neg c_] at H; exact absurd H (by simp)
    rw [if_pos c18_] at H
    subst c18_
    have c19_ : t115 = t103 := by
      by_cases c_ : t115 = t103
      · exact c_
      · rw [if_neg c_] at H; exact absurd H (by simp)
    rw [if_pos c19_] at H
    have c19_b0 : (t115 == t103) = true := beq_iff_eq.mpr c19_
    have c19_b1 : (t115 != t103) = false := bne_eq_false_iff_eq.mpr c19_
    replace H := Option.bind_eq_some_iff.mp H
    obtain ⟨t118, B20_, H⟩ := H
    replace H : (if t118 < 0 then (none) else (if t118 = t110 then (some true) else (none))) = some r := H
    have X20_ := Aside0.mk B20_
    clear B20_
    have c21_ : ¬ (t118 < 0) := by
      by_cases c_ : t118 < 0
      · rw [if_pos c_] at H; exact absurd H (by simp)
      · exact c_
    rw [if_neg c21_] at H
    have c21_b0 : decide (t118 < 0) = false := decide_eq_false c21_
    have c22_ : t118 = t110 := by
      by_cases c_ : t118 = t110
      · exact c_
      · rw [if_neg c_] at H; exact absurd H (by simp)
    rw [if_pos c22_] at H
    have c22_b0 : (t118 == t110) = true := beq_iff_eq.mpr c22_
    have c22_b1 : (t118 != t110) = false := bne_eq_false_iff_eq.mpr c22_
    obtain rfl := Option.some.inj H
    go_enter Tryd.func3, Tryd.ntmps3
    go_wp2_with (first | ((with_reducible refine gate_callee (f := 4) rfl ?_); refine goesL_ (some 16) rfl rfl Tryd.func4 (by kernel_rfl) rfl #[.string a0] rfl (by (try simp only [List.map_toArray, List.map_cons, List.map_nil]); first | done | rfl) ?_; (with_reducible refine (spec_ReadTable.calls k a0 t101 t102 t103 _ X1_.out).mono ?_); rintro e w1_ ⟨v102, rfl, ho0, hb⟩; refine ⟨_, rfl, ?_⟩; have HZ1 := Aside0.mk (show w.heap.size ≤ w1_.heap.size from hb.size); obtain ⟨Av102, cv102, ez_⟩ := Kd.S_slice ho0; subst ez_; have n0_ := Aside0.mk ((show Kd.S (Kd.slice 2 (Kd.int .i64)) 36 w1_ w.heap.size (fun k_ => True ∧ w.heap.size ≤ k_ ∧ k_ < w1_.heap.size) (.slice Av102 t102.length cv102) t102 from laws_FnExactReadTable.S_iv ho0 (below_size (by repeat (first | (with_reducible first | exact HB.out | apply below_alloc | apply pw_below_drewN | apply below_drew1) | exact HB.out))))); have nb_ := Aside0.mk (below_step (by repeat (first | (with_reducible first | exact HB.out | apply below_alloc | apply pw_below_drewN | apply below_drew1) | exact HB.out)) hb); clear HB; have HO102 := n0_; have HB := nb_; clear n0_ nb_; (try clear hb); (try clear hkp); (try clear hd); (try clear ho0)) | ((with_reducible refine gate_dst (N := 3) rfl ?_); (try (refine gate_guard (by rfl) ?_; dsimp only)); refine box_event ?hg (N := 3) ?hd (cs := #[.int .i64 0, .slice none 0 0]) (t := 24) ?hr ?_; (case hd => rfl); (case hg => rfl); (case hr => first | (go_simp; done) | (go_simp; rfl)); intro gb104 hg w2_ hbox hb; have GL104 := Aside0.mk (show w1_.heap.size ≤ gb104 from by rw [hg]; exact Nat.le_refl _); have GU104 := Aside0.mk (show gb104 < w2_.heap.size from blk_lt hbox); have GE104 := Aside0.mk (show w.heap.size ≤ gb104 from by rw [hg]; exact (below_size (by repeat (first | (with_reducible first | exact HB.out | apply below_alloc | apply pw_below_drewN | apply below_drew1) | exact HB.out)))); have HZ2 := Aside0.mk (show w1_.heap.size ≤ w2_.heap.size from hb.size); have n0_ := Aside0.mk (Kd.S_below (by (with_reducible repeat (first | apply Kd.S_alloc | apply Kd.S_drewN | apply Kd.S_drew)); exact HO102.out) hb); have nb_ := Aside0.mk (below_step (by repeat (first | (with_reducible first | exact HB.out | apply below_alloc | apply pw_below_drewN | apply below_drew1) | exact HB.out)) hb); clear HO102; clear HB; have HO102 := n0_; have HB := nb_; have BK104 := Aside0.mk hbox; clear n0_ nb_ ; clear hb hbox hg; (try clear hcz104_0 hfz104_0); have hcz104_0 : w2_.cell? ⟨gb104, 0, none⟩ = some (.int .i64 0) := (blk_cell BK104.out 0).trans rfl; have hfz104_0 := blk_frozen BK104.out 0; (try clear hcz104_1 hfz104_1); have hcz104_1 : w2_.cell? ⟨gb104, 1, none⟩ = some (.slice none 0 0) := (blk_cell BK104.out 1).trans rfl; have hfz104_1 := blk_frozen BK104.out 1) | ((with_reducible refine gate_store (t := 24) (p := 3) rfl ?_); refine store_event (t := 24) (p := 3) (v := ?vo_w3_) (w1 := ((w2_.setCell ⟨gb104, 0, none⟩ (.int .i64 t101)).setCell ⟨gb104, 1, none⟩ (.slice Av102 t102.length cv102))) ?hg ?ho ?hn ?hr ?_; (case ho => rfl); (case hg => rfl); (case hn => rfl); (case hr => first | (go_simp; done) | (go_simp; rfl)); intro w3_ hw; have HZ3 := Aside0.mk (show w2_.heap.size ≤ w3_.heap.size from by rw [hw]; simp [World.setCell]); have n0_ := Aside0.mk ((show Kd.S (Kd.slice 2 (Kd.int .i64)) 36 w3_ w.heap.size (fun k_ => True ∧ w.heap.size ≤ k_ ∧ k_ < w1_.heap.size) (.slice Av102 t102.length cv102) t102 from by rw [hw]; exact Kd.S_mono (Kd.S_far (p := ⟨gb104, 1, none⟩) (Kd.S_far (p := ⟨gb104, 0, none⟩) (Kd.S_mono (by (with_reducible repeat (first | apply Kd.S_alloc | apply Kd.S_drewN | apply Kd.S_drew)); exact HO102.out) (fun k_ hk_ => (⟨hk_, by have a_ := hk_.2; have z1_ := HZ1.out; have z2_ := HZ2.out; have z3_ := HZ3.out; have x104_ := GL104.out; have y104_ := GU104.out; omega⟩ : _ ∧ k_ ≠ gb104))) (fun _ hk_ => hk_.2) (.int .i64 t101)) (fun _ hk_ => hk_.2) (.slice Av102 t102.length cv102)) (fun _ hk_ => hk_.1))); have nb_ := Aside0.mk ((show Below w.heap.size w w3_ from by rw [hw]; exact below_set (below_set (HB.out) GE104.out) GE104.out)); have m104_ := Aside0.mk (show w3_.heap[gb104]? = some (.cells #[.int .i64 t101, .slice Av102 t102.length cv102] 24 (0, 0)) from by rw [hw]; refine blk_put (cs := #[.int .i64 t101, .slice none 0 0]) ?_ 1 _ rfl; refine blk_put (cs := #[.int .i64 0, .slice none 0 0]) ?_ 0 _ rfl; exact BK104.out); have gu_ := Aside0.mk (show gb104 < w3_.heap.size from blk_lt m104_.out); clear HO102; clear BK104; clear HB; clear GU104; have GU104 := gu_; clear gu_; have HO102 := n0_; have HB := nb_; have BK104 := m104_; clear n0_ nb_ m104_; clear hw; (try clear hcz104_0 hfz104_0); have hcz104_0 : w3_.cell? ⟨gb104, 0, none⟩ = some (.int .i64 t101) := (blk_cell BK104.out 0).trans rfl; have hfz104_0 := blk_frozen BK104.out 0; (try clear hcz104_1 hfz104_1); have hcz104_1 : w3_.cell? ⟨gb104, 1, none⟩ = some (.slice Av102 t102.length cv102) := (blk_cell BK104.out 1).trans rfl; have hfz104_1 := blk_frozen BK104.out 1) | ((with_reducible refine gate_callee (f := 5) rfl ?_); refine goesL_ (some 21) rfl rfl Tryd.func5 (by kernel_rfl) rfl #[.string a0] rfl (by (try simp only [List.map_toArray, List.map_cons, List.map_nil]); first | done | rfl) ?_; (with_reducible refine (impl_ReadTable.calls k a0 t105 t106 t107 _ X4_.out (hT.keep (by repeat (first | (with_reducible first | exact HB.out | apply below_alloc | apply pw_below_drewN | apply below_drew1) | exact HB.out)))).mono ?_); rintro e w4_ ⟨v106, rfl, ho0, hb⟩; refine ⟨_, rfl, ?_⟩; have HZ4 := Aside0.mk (show w3_.heap.size ≤ w4_.heap.size from hb.size); obtain ⟨Av106, cv106, ez_⟩ := Kd.S_slice ho0; subst ez_; have m104_ := Aside0.mk (blk_below (g := gb104) (o := .cells #[.int .i64 t101, .slice Av102 t102.length cv102] 24 (0, 0)) (by (with_reducible repeat (first | refine blk_drewN ?_ _ | refine blk_drew ?_ | refine blk_alloc ?_ _)); exact BK104.out) hb); have n0_ := Aside0.mk (Kd.S_below (by (with_reducible repeat (first | apply Kd.S_alloc | apply Kd.S_drewN | apply Kd.S_drew)); exact HO102.out) hb); have n1_ := Aside0.mk ((show Kd.S (Kd.slice 2 (Kd.int .i64)) 36 w4_ w.heap.size (fun k_ => True ∧ w3_.heap.size ≤ k_ ∧ k_ < w4_.heap.size) (.slice Av106 t106.length cv106) t106 from laws_FnExactReadTable.S_iv ho0 (below_size (by repeat (first | (with_reducible first | exact HB.out | apply below_alloc | apply pw_below_drewN | apply below_drew1) | exact HB.out))))); have nb_ := Aside0.mk (below_step (by repeat (first | (with_reducible first | exact HB.out | apply below_alloc | apply pw_below_drewN | apply below_drew1) | exact HB.out)) hb); clear HO102; clear BK104; clear HB; have HO102 := n0_; have HO106 := n1_; have HB := nb_; clear n0_ n1_ nb_; (try clear hb); (try clear hkp); (try clear hd); (try clear ho0); have BK104 := m104_; clear m104_; (try clear hcz104_0 hfz104_0); have hcz104_0 : w4_.cell? ⟨gb104, 0, none⟩ = some (.int .i64 t101) := (blk_cell BK104.out 0).trans rfl; have hfz104_0 := blk_frozen BK104.out 0; (try clear hcz104_1 hfz104_1); have hcz104_1 : w4_.cell? ⟨gb104, 1, none⟩ = some (.slice Av102 t102.length cv102) := (blk_cell BK104.out 1).trans rfl; have hfz104_1 := blk_frozen BK104.out 1) | ((with_reducible refine gate_dst (N := 5) rfl ?_); (try (refine gate_guard (by rfl) ?_; dsimp only)); refine box_event ?hg (N := 5) ?hd (cs := #[.int .i64 0, .slice none 0 0]) (t := 24) ?hr ?_; (case hd => rfl); (case hg => rfl); (case hr => first | (go_simp; done) | (go_simp; rfl)); intro gb108 hg w5_ hbox hb; have GL108 := Aside0.mk (show w4_.heap.size ≤ gb108 from by rw [hg]; exact Nat.le_refl _); have GU108 := Aside0.mk (show gb108 < w5_.heap.size from blk_lt hbox); have GE108 := Aside0.mk (show w.heap.size ≤ gb108 from by rw [hg]; exact (below_size (by repeat (first | (with_reducible first | exact HB.out | apply below_alloc | apply pw_below_drewN | apply below_drew1) | exact HB.out)))); have HZ5 := Aside0.mk (show w4_.heap.size ≤ w5_.heap.size from hb.size); have n0_ := Aside0.mk (Kd.S_below (by (with_reducible repeat (first | apply Kd.S_alloc | apply Kd.S_drewN | apply Kd.S_drew)); exact HO102.out) hb); have n1_ := Aside0.mk (Kd.S_below (by (with_reducible repeat (first | apply Kd.S_alloc | apply Kd.S_drewN | apply Kd.S_drew)); exact HO106.out) hb); have nb_ := Aside0.mk (below_step (by repeat (first | (with_reducible first | exact HB.out | apply below_alloc | apply pw_below_drewN | apply below_drew1) | exact HB.out)) hb); have m104_ := Aside0.mk (blk_below (g := gb104) (o := .cells #[.int .i64 t101, .slice Av102 t102.length cv102] 24 (0, 0)) (by (with_reducible repeat (first | refine blk_drewN ?_ _ | refine blk_drew ?_ | refine blk_alloc ?_ _)); exact BK104.out) hb); clear HO102; clear HO106; clear BK104; clear HB; have HO102 := n0_; have HO106 := n1_; have HB := nb_; have BK104 := m104_; have BK108 := Aside0.mk hbox; clear n0_ n1_ nb_ m104_; clear hb hbox hg; (try clear hcz104_0 hfz104_0); have hcz104_0 : w5_.cell? ⟨gb104, 0, none⟩ = some (.int .i64 t101) := (blk_cell BK104.out 0).trans rfl; have hfz104_0 := blk_frozen BK104.out 0; (try clear hcz104_1 hfz104_1); have hcz104_1 : w5_.cell? ⟨gb104, 1, none⟩ = some (.slice Av102 t102.length cv102) := (blk_cell BK104.out 1).trans rfl; have hfz104_1 := blk_frozen BK104.out 1; (try clear hcz108_0 hfz108_0); have hcz108_0 : w5_.cell? ⟨gb108, 0, none⟩ = some (.int .i64 0) := (blk_cell BK108.out 0).trans rfl; have hfz108_0 := blk_frozen BK108.out 0; (try clear hcz108_1 hfz108_1); have hcz108_1 : w5_.cell? ⟨gb108, 1, none⟩ = some (.slice none 0 0) := (blk_cell BK108.out 1).trans rfl; have hfz108_1 := blk_frozen BK108.out 1) | ((with_reducible refine gate_store (t := 24) (p := 5) rfl ?_); refine store_event (t := 24) (p := 5) (v := ?vo_w6_) (w1 := ((w5_.setCell ⟨gb108, 0, none⟩ (.int .i64 t105)).setCell ⟨gb108, 1, none⟩ (.slice Av106 t106.length cv106))) ?hg ?ho ?hn ?hr ?_; (case ho => rfl); (case hg => rfl); (case hn => rfl); (case hr => first | (go_simp; done) | (go_simp; rfl)); intro w6_ hw; have HZ6 := Aside0.mk (show w5_.heap.size ≤ w6_.heap.size from by rw [hw]; simp [World.setCell]); have n0_ := Aside0.mk ((show Kd.S (Kd.slice 2 (Kd.int .i64)) 36 w6_ w.heap.size (fun k_ => True ∧ w.heap.size ≤ k_ ∧ k_ < w1_.heap.size) (.slice Av102 t102.length cv102) t102 from by rw [hw]; exact Kd.S_mono (Kd.S_far (p := ⟨gb108, 1, none⟩) (Kd.S_far (p := ⟨gb108, 0, none⟩) (Kd.S_mono (by (with_reducible repeat (first | apply Kd.S_alloc | apply Kd.S_drewN | apply Kd.S_drew)); exact HO102.out) (fun k_ hk_ => (⟨hk_, by have a_ := hk_.2; have z1_ := HZ1.out; have z2_ := HZ2.out; have z3_ := HZ3.out; have z4_ := HZ4.out; have z5_ := HZ5.out; have z6_ := HZ6.out; have x104_ := GL104.out; have y104_ := GU104.out; have x108_ := GL108.out; have y108_ := GU108.out; omega⟩ : _ ∧ k_ ≠ gb108))) (fun _ hk_ => hk_.2) (.int .i64 t105)) (fun _ hk_ => hk_.2) (.slice Av106 t106.length cv106)) (fun _ hk_ => hk_.1))); have n1_ := Aside0.mk ((show Kd.S (Kd.slice 2 (Kd.int .i64)) 36 w6_ w.heap.size (fun k_ => True ∧ w3_.heap.size ≤ k_ ∧ k_ < w4_.heap.size) (.slice Av106 t106.length cv106) t106 from by rw [hw]; exact Kd.S_mono (Kd.S_far (p := ⟨gb108, 1, none⟩) (Kd.S_far (p := ⟨gb108, 0, none⟩) (Kd.S_mono (by (with_reducible repeat (first | apply Kd.S_alloc | apply Kd.S_drewN | apply Kd.S_drew)); exact HO106.out) (fun k_ hk_ => (⟨hk_, by have a_ := hk_.2; have z1_ := HZ1.out; have z2_ := HZ2.out; have z3_ := HZ3.out; have z4_ := HZ4.out; have z5_ := HZ5.out; have z6_ := HZ6.out; have x104_ := GL104.out; have y104_ := GU104.out; have x108_ := GL108.out; have y108_ := GU108.out; omega⟩ : _ ∧ k_ ≠ gb108))) (fun _ hk_ => hk_.2) (.int .i64 t105)) (fun _ hk_ => hk_.2) (.slice Av106 t106.length cv106)) (fun _ hk_ => hk_.1))); have nb_ := Aside0.mk ((show Below w.heap.size w w6_ from by rw [hw]; exact below_set (below_set (HB.out) GE108.out) GE108.out)); have m104_ := Aside0.mk (show w6_.heap[gb104]? = some (.cells #[.int .i64 t101, .slice Av102 t102.length cv102] 24 (0, 0)) from by rw [hw]; refine blk_far (p := ⟨gb108, 1, none⟩) ?_ (show gb104 ≠ gb108 from by have z1_ := HZ1.out; have z2_ := HZ2.out; have z3_ := HZ3.out; have z4_ := HZ4.out; have z5_ := HZ5.out; have z6_ := HZ6.out; have x104_ := GL104.out; have y104_ := GU104.out; have x108_ := GL108.out; have y108_ := GU108.out; omega) _; refine blk_far (p := ⟨gb108, 0, none⟩) ?_ (show gb104 ≠ gb108 from by have z1_ := HZ1.out; have z2_ := HZ2.out; have z3_ := HZ3.out; have z4_ := HZ4.out; have z5_ := HZ5.out; have z6_ := HZ6.out; have x104_ := GL104.out; have y104_ := GU104.out; have x108_ := GL108.out; have y108_ := GU108.out; omega) _; exact BK104.out); have m108_ := Aside0.mk (show w6_.heap[gb108]? = some (.cells #[.int .i64 t105, .slice Av106 t106.length cv106] 24 (0, 0)) from by rw [hw]; refine blk_put (cs := #[.int .i64 t105, .slice none 0 0]) ?_ 1 _ rfl; refine blk_put (cs := #[.int .i64 0, .slice none 0 0]) ?_ 0 _ rfl; exact BK108.out); have gu_ := Aside0.mk (show gb108 < w6_.heap.size from blk_lt m108_.out); clear HO102; clear HO106; clear BK104; clear BK108; clear HB; clear GU108; have GU108 := gu_; clear gu_; have HO102 := n0_; have HO106 := n1_; have HB := nb_; have BK104 := m104_; have BK108 := m108_; clear n0_ n1_ nb_ m104_ m108_; clear hw; (try clear hcz104_0 hfz104_0); have hcz104_0 : w6_.cell? ⟨gb104, 0, none⟩ = some (.int .i64 t101) := (blk_cell BK104.out 0).trans rfl; have hfz104_0 := blk_frozen BK104.out 0; (try clear hcz104_1 hfz104_1); have hcz104_1 : w6_.cell? ⟨gb104, 1, none⟩ = some (.slice Av102 t102.length cv102) := (blk_cell BK104.out 1).trans rfl; have hfz104_1 := blk_frozen BK104.out 1; (try clear hcz108_0 hfz108_0); have hcz108_0 : w6_.cell? ⟨gb108, 0, none⟩ = some (.int .i64 t105) := (blk_cell BK108.out 0).trans rfl; have hfz108_0 := blk_frozen BK108.out 0; (try clear hcz108_1 hfz108_1); have hcz108_1 : w6_.cell? ⟨gb108, 1, none⟩ = some (.slice Av106 t106.length cv106) := (blk_cell BK108.out 1).trans rfl; have hfz108_1 := blk_frozen BK108.out 1) | ((with_reducible refine gate_callee (f := 6) rfl ?_); refine goesL_ (some 26) rfl rfl Tryd.func6 (by kernel_rfl) rfl #[.agg #[.int .i64 t105, .slice Av106 t106.length cv106], .agg #[.int .i64 t101, .slice Av102 t102.length cv102]] rfl (by (try simp only [List.map_toArray, List.map_cons, List.map_nil]); first | done | rfl) ?_; (with_reducible refine (laws_eqTable.calls k t105 _ _ t106 t101 _ _ t102 true _ ?side1 ?side2 ?side3 ?side4 X7_.out).mono ?_); (case side1 => repeat (first | exact (Kd.S_reads' HO106.out).2.2 | (with_reducible refine Kd.C_alloc ?_ _) | (with_reducible refine Kd.C_drewN ?_ _) | (with_reducible refine Kd.C_drew ?_))); (case side2 => exact (Kd.S_reads' HO106.out).2.1); (case side3 => repeat (first | exact (Kd.S_reads' HO102.out).2.2 | (with_reducible refine Kd.C_alloc ?_ _) | (with_reducible refine Kd.C_drewN ?_ _) | (with_reducible refine Kd.C_drew ?_))); (case side4 => exact (Kd.S_reads' HO102.out).2.1); rintro e w7_ ⟨rfl, hb⟩; refine ⟨_, rfl, ?_⟩; have HZ7 := Aside0.mk (show w6_.heap.size ≤ w7_.heap.size from hb.size); have m104_ := Aside0.mk (blk_below (g := gb104) (o := .cells #[.int .i64 t101, .slice Av102 t102.length cv102] 24 (0, 0)) (by (with_reducible repeat (first | refine blk_drewN ?_ _ | refine blk_drew ?_ | refine blk_alloc ?_ _)); exact BK104.out) hb); have m108_ := Aside0.mk (blk_below (g := gb108) (o := .cells #[.int .i64 t105, .slice Av106 t106.length cv106] 24 (0, 0)) (by (with_reducible repeat (first | refine blk_drewN ?_ _ | refine blk_drew ?_ | refine blk_alloc ?_ _)); exact BK108.out) hb); have n0_ := Aside0.mk (Kd.S_below (by (with_reducible repeat (first | apply Kd.S_alloc | apply Kd.S_drewN | apply Kd.S_drew)); exact HO102.out) hb); have n1_ := Aside0.mk (Kd.S_below (by (with_reducible repeat (first | apply Kd.S_alloc | apply Kd.S_drewN | apply Kd.S_drew)); exact HO106.out) hb); have nb_ := Aside0.mk (below_step (by repeat (first | (with_reducible first | exact HB.out | apply below_alloc | apply pw_below_drewN | apply below_drew1) | exact HB.out)) hb); clear HO102; clear HO106; clear BK104; clear BK108; clear HB; have HO102 := n0_; have HO106 := n1_; have HB := nb_; clear n0_ n1_ nb_; (try clear hb); (try clear hkp); (try clear hd); have BK104 := m104_; have BK108 := m108_; clear m104_ m108_; (try clear hcz104_0 hfz104_0); have hcz104_0 : w7_.cell? ⟨gb104, 0, none⟩ = some (.int .i64 t101) := (blk_cell BK104.out 0).trans rfl; have hfz104_0 := blk_frozen BK104.out 0; (try clear hcz104_1 hfz104_1); have hcz104_1 : w7_.cell? ⟨gb104, 1, none⟩ = some (.slice Av102 t102.length cv102) := (blk_cell BK104.out 1).trans rfl; have hfz104_1 := blk_frozen BK104.out 1; (try clear hcz108_0 hfz108_0); have hcz108_0 : w7_.cell? ⟨gb108, 0, none⟩ = some (.int .i64 t105) := (blk_cell BK108.out 0).trans rfl; have hfz108_0 := blk_frozen BK108.out 0; (try clear hcz108_1 hfz108_1); have hcz108_1 : w7_.cell? ⟨gb108, 1, none⟩ = some (.slice Av106 t106.length cv106) := (blk_cell BK108.out 1).trans rfl; have hfz108_1 := blk_frozen BK108.out 1) | ((with_reducible refine gate_callee (f := 7) rfl ?_); refine goesL_ (some 35) rfl rfl Tryd.func7 (by kernel_rfl) rfl #[.agg #[.int .i64 t105, .slice Av106 t106.length cv106], .int .i64 1] rfl (by (try simp only [List.map_toArray, List.map_cons, List.map_nil]); first | done | rfl) ?_; (with_reducible refine (laws_markTable.calls k t105 (fun k_ => True ∧ w3_.heap.size ≤ k_ ∧ k_ < w4_.heap.size) (.slice Av106 t106.length cv106) t106 1 t110 t111 w _ ?side1 ?side2 X10_.out).mono ?_); (case side1 => exact (by repeat (first | (with_reducible first | exact HB.out | apply below_alloc | apply pw_below_drewN | apply below_drew1) | exact HB.out))); (case side2 => exact (by (with_reducible repeat (first | apply Kd.S_alloc | apply Kd.S_drewN | apply Kd.S_drew)); exact HO106.out)); rintro e w10_ ⟨rfl, hy0, hb, hkp⟩; refine ⟨_, rfl, ?_⟩; have HZ10 := Aside0.mk (show w7_.heap.size ≤ w10_.heap.size from hkp.1); have EL10_0 := Aside0.mk (show t106.length = t111.length from (Kd.S_reads' hy0).1); have m104_ := Aside0.mk (blk_kept (g := gb104) (o := .cells #[.int .i64 t101, .slice Av102 t102.length cv102] 24 (0, 0)) (by (with_reducible repeat (first | refine blk_drewN ?_ _ | refine blk_drew ?_ | refine blk_alloc ?_ _)); exact BK104.out) hkp (fun hs_ => (by have a_ := hs_.2; have z1_ := HZ1.out; have z2_ := HZ2.out; have z3_ := HZ3.out; have z4_ := HZ4.out; have z5_ := HZ5.out; have z6_ := HZ6.out; have z7_ := HZ7.out; have z10_ := HZ10.out; have x104_ := GL104.out; have y104_ := GU104.out; have x108_ := GL108.out; have y108_ := GU108.out; omega))); have m108_ := Aside0.mk (blk_kept (g := gb108) (o := .cells #[.int .i64 t105, .slice Av106 t106.length cv106] 24 (0, 0)) (by (with_reducible repeat (first | refine blk_drewN ?_ _ | refine blk_drew ?_ | refine blk_alloc ?_ _)); exact BK108.out) hkp (fun hs_ => (by have a_ := hs_.2; have z1_ := HZ1.out; have z2_ := HZ2.out; have z3_ := HZ3.out; have z4_ := HZ4.out; have z5_ := HZ5.out; have z6_ := HZ6.out; have z7_ := HZ7.out; have z10_ := HZ10.out; have x104_ := GL104.out; have y104_ := GU104.out; have x108_ := GL108.out; have y108_ := GU108.out; omega))); have n0_ := Aside0.mk (show Kd.S (Kd.slice 2 (Kd.int .i64)) 36 w10_ w.heap.size (fun k_ => True ∧ w.heap.size ≤ k_ ∧ k_ < w1_.heap.size) (.slice Av102 t102.length cv102) t102 from Kd.S_kept (by (with_reducible repeat (first | apply Kd.S_alloc | apply Kd.S_drewN | apply Kd.S_drew)); exact HO102.out) hkp (fun k_ hi_ hs_ => (by have a_ := hi_.2; have b_ := hs_.2; have z1_ := HZ1.out; have z2_ := HZ2.out; have z3_ := HZ3.out; have z4_ := HZ4.out; have z5_ := HZ5.out; have z6_ := HZ6.out; have z7_ := HZ7.out; have z10_ := HZ10.out; omega))); have n1_ := Aside0.mk ((show Kd.S (Kd.slice 2 (Kd.int .i64)) 36 w10_ w.heap.size (fun k_ => True ∧ w3_.heap.size ≤ k_ ∧ k_ < w4_.heap.size) (.slice Av106 t111.length cv106) t111 from by rw [← EL10_0.out]; exact hy0)); have nb_ := Aside0.mk (hb); clear HO102; clear HO106; clear BK104; clear BK108; clear HB; have HO102 := n0_; have HO106 := n1_; have HB := nb_; clear n0_ n1_ nb_; (try clear hb); (try clear hkp); (try clear hd); (try clear hy0); have BK104 := m104_; have BK108 := m108_; clear m104_ m108_; (try clear hcz104_0 hfz104_0); have hcz104_0 : w10_.cell? ⟨gb104, 0, none⟩ = some (.int .i64 t101) := (blk_cell BK104.out 0).trans rfl; have hfz104_0 := blk_frozen BK104.out 0; (try clear hcz104_1 hfz104_1); have hcz104_1 : w10_.cell? ⟨gb104, 1, none⟩ = some (.slice Av102 t102.length cv102) := (blk_cell BK104.out 1).trans rfl; have hfz104_1 := blk_frozen BK104.out 1; (try clear hcz108_0 hfz108_0); have hcz108_0 : w10_.cell? ⟨gb108, 0, none⟩ = some (.int .i64 t105) := (blk_cell BK108.out 0).trans rfl; have hfz108_0 := blk_frozen BK108.out 0; (try clear hcz108_1 hfz108_1); have hcz108_1 : w10_.cell? ⟨gb108, 1, none⟩ = some (.slice Av106 t106.length cv106) := (blk_cell BK108.out 1).trans rfl; have hfz108_1 := blk_frozen BK108.out 1) | ((with_reducible refine gate_callee (f := 8) rfl ?_); refine goesL_ (some 38) rfl rfl Tryd.func8 (by kernel_rfl) rfl #[.agg #[.int .i64 t105, .slice Av106 t111.length cv106], .int .i64 1] rfl (by (try simp only [List.map_toArray, List.map_cons, List.map_nil]); first | done | rfl | (simp only [EL10_0.out]; done) | (simp only [EL10_0.out]; rfl)) ?_; (with_reducible refine (laws_heldTable.calls k t105 _ _ t111 1 t112 _ ?side1 ?side2 X11_.out).mono ?_); (case side1 => repeat (first | exact (Kd.S_reads' HO106.out).2.2 | (with_reducible refine Kd.C_alloc ?_ _) | (with_reducible refine Kd.C_drewN ?_ _) | (with_reducible refine Kd.C_drew ?_))); (case side2 => exact (Kd.S_reads' HO106.out).2.1); rintro e w11_ ⟨rfl, hb⟩; refine ⟨_, rfl, ?_⟩; have HZ11 := Aside0.mk (show w10_.heap.size ≤ w11_.heap.size from hb.size); have m104_ := Aside0.mk (blk_below (g := gb104) (o := .cells #[.int .i64 t101, .slice Av102 t102.length cv102] 24 (0, 0)) (by (with_reducible repeat (first | refine blk_drewN ?_ _ | refine blk_drew ?_ | refine blk_alloc ?_ _)); exact BK104.out) hb); have m108_ := Aside0.mk (blk_below (g := gb108) (o := .cells #[.int .i64 t105, .slice Av106 t106.length cv106] 24 (0, 0)) (by (with_reducible repeat (first | refine blk_drewN ?_ _ | refine blk_drew ?_ | refine blk_alloc ?_ _)); exact BK108.out) hb); have n0_ := Aside0.mk (Kd.S_below (by (with_reducible repeat (first | apply Kd.S_alloc | apply Kd.S_drewN | apply Kd.S_drew)); exact HO102.out) hb); have n1_ := Aside0.mk (Kd.S_below (by (with_reducible repeat (first | apply Kd.S_alloc | apply Kd.S_drewN | apply Kd.S_drew)); exact HO106.out) hb); have nb_ := Aside0.mk (below_step (by repeat (first | (with_reducible first | exact HB.out | apply below_alloc | apply pw_below_drewN | apply below_drew1) | exact HB.out)) hb); clear HO102; clear HO106; clear BK104; clear BK108; clear HB; have HO102 := n0_; have HO106 := n1_; have HB := nb_; clear n0_ n1_ nb_; (try clear hb); (try clear hkp); (try clear hd); have BK104 := m104_; have BK108 := m108_; clear m104_ m108_; (try clear hcz104_0 hfz104_0); have hcz104_0 : w11_.cell? ⟨gb104, 0, none⟩ = some (.int .i64 t101) := (blk_cell BK104.out 0).trans rfl; have hfz104_0 := blk_frozen BK104.out 0; (try clear hcz104_1 hfz104_1); have hcz104_1 : w11_.cell? ⟨gb104, 1, none⟩ = some (.slice Av102 t102.length cv102) := (blk_cell BK104.out 1).trans rfl; have hfz104_1 := blk_frozen BK104.out 1; (try clear hcz108_0 hfz108_0); have hcz108_0 : w11_.cell? ⟨gb108, 0, none⟩ = some (.int .i64 t105) := (blk_cell BK108.out 0).trans rfl; have hfz108_0 := blk_frozen BK108.out 0; (try clear hcz108_1 hfz108_1); have hcz108_1 : w11_.cell? ⟨gb108, 1, none⟩ = some (.slice Av106 t106.length cv106) := (blk_cell BK108.out 1).trans rfl; have hfz108_1 := blk_frozen BK108.out 1) | ((with_reducible refine gate_callee (f := 5) rfl ?_); refine goesL_ (some 46) rfl rfl Tryd.func5 (by kernel_rfl) rfl #[.string a0] rfl (by (try simp only [List.map_toArray, List.map_cons, List.map_nil]); first | done | rfl | (simp only [EL10_0.out]; done) | (simp only [EL10_0.out]; rfl)) ?_; (with_reducible refine (impl_ReadTable.calls k a0 t113 t114 t115 _ X14_.out (hT.keep (by repeat (first | (with_reducible first | exact HB.out | apply below_alloc | apply pw_below_drewN | apply below_drew1) | exact HB.out)))).mono ?_); rintro e w14_ ⟨v114, rfl, ho0, hb⟩; refine ⟨_, rfl, ?_⟩; have HZ14 := Aside0.mk (show w11_.heap.size ≤ w14_.heap.size from hb.size); obtain ⟨Av114, cv114, ez_⟩ := Kd.S_slice ho0; subst ez_; have m104_ := Aside0.mk (blk_below (g := gb104) (o := .cells #[.int .i64 t101, .slice Av102 t102.length cv102] 24 (0, 0)) (by (with_reducible repeat (first | refine blk_drewN ?_ _ | refine blk_drew ?_ | refine blk_alloc ?_ _)); exact BK104.out) hb); have m108_ := Aside0.mk (blk_below (g := gb108) (o := .cells #[.int .i64 t105, .slice Av106 t106.length cv106] 24 (0, 0)) (by (with_reducible repeat (first | refine blk_drewN ?_ _ | refine blk_drew ?_ | refine blk_alloc ?_ _)); exact BK108.out) hb); have n0_ := Aside0.mk (Kd.S_below (by (with_reducible repeat (first | apply Kd.S_alloc | apply Kd.S_drewN | apply Kd.S_drew)); exact HO102.out) hb); have n1_ := Aside0.mk (Kd.S_below (by (with_reducible repeat (first | apply Kd.S_alloc | apply Kd.S_drewN | apply Kd.S_drew)); exact HO106.out) hb); have n2_ := Aside0.mk ((show Kd.S (Kd.slice 2 (Kd.int .i64)) 36 w14_ w.heap.size (fun k_ => True ∧ w11_.heap.size ≤ k_ ∧ k_ < w14_.heap.size) (.slice Av114 t114.length cv114) t114 from laws_FnExactReadTable.S_iv ho0 (below_size (by repeat (first | (with_reducible first | exact HB.out | apply below_alloc | apply pw_below_drewN | apply below_drew1) | exact HB.out))))); have nb_ := Aside0.mk (below_step (by repeat (first | (with_reducible first | exact HB.out | apply below_alloc | apply pw_below_drewN | apply below_drew1) | exact HB.out)) hb); clear HO102; clear HO106; clear BK104; clear BK108; clear HB; have HO102 := n0_; have HO106 := n1_; have HO114 := n2_; have HB := nb_; clear n0_ n1_ n2_ nb_; (try clear hb); (try clear hkp); (try clear hd); (try clear ho0); have BK104 := m104_; have BK108 := m108_; clear m104_ m108_; (try clear hcz104_0 hfz104_0); have hcz104_0 : w14_.cell? ⟨gb104, 0, none⟩ = some (.int .i64 t101) := (blk_cell BK104.out 0).trans rfl; have hfz104_0 := blk_frozen BK104.out 0; (try clear hcz104_1 hfz104_1); have hcz104_1 : w14_.cell? ⟨gb104, 1, none⟩ = some (.slice Av102 t102.length cv102) := (blk_cell BK104.out 1).trans rfl; have hfz104_1 := blk_frozen BK104.out 1; (try clear hcz108_0 hfz108_0); have hcz108_0 : w14_.cell? ⟨gb108, 0, none⟩ = some (.int .i64 t105) := (blk_cell BK108.out 0).trans rfl; have hfz108_0 := blk_frozen BK108.out 0; (try clear hcz108_1 hfz108_1); have hcz108_1 : w14_.cell? ⟨gb108, 1, none⟩ = some (.slice Av106 t106.length cv106) := (blk_cell BK108.out 1).trans rfl; have hfz108_1 := blk_frozen BK108.out 1) | ((with_reducible refine gate_dst (N := 9) rfl ?_); (try (refine gate_guard (by rfl) ?_; dsimp only)); refine box_event ?hg (N := 9) ?hd (cs := #[.int .i64 0, .slice none 0 0]) (t := 24) ?hr ?_; (case hd => rfl); (case hg => rfl); (case hr => first | (go_simp; done) | (go_simp; rfl)); intro gb116 hg w15_ hbox hb; have GL116 := Aside0.mk (show w14_.heap.size ≤ gb116 from by rw [hg]; exact Nat.le_refl _); have GU116 := Aside0.mk (show gb116 < w15_.heap.size from blk_lt hbox); have GE116 := Aside0.mk (show w.heap.size ≤ gb116 from by rw [hg]; exact (below_size (by repeat (first | (with_reducible first | exact HB.out | apply below_alloc | apply pw_below_drewN | apply below_drew1) | exact HB.out)))); have HZ15 := Aside0.mk (show w14_.heap.size ≤ w15_.heap.size from hb.size); have n0_ := Aside0.mk (Kd.S_below (by (with_reducible repeat (first | apply Kd.S_alloc | apply Kd.S_drewN | apply Kd.S_drew)); exact HO102.out) hb); have n1_ := Aside0.mk (Kd.S_below (by (with_reducible repeat (first | apply Kd.S_alloc | apply Kd.S_drewN | apply Kd.S_drew)); exact HO106.out) hb); have n2_ := Aside0.mk (Kd.S_below (by (with_reducible repeat (first | apply Kd.S_alloc | apply Kd.S_drewN | apply Kd.S_drew)); exact HO114.out) hb); have nb_ := Aside0.mk (below_step (by repeat (first | (with_reducible first | exact HB.out | apply below_alloc | apply pw_below_drewN | apply below_drew1) | exact HB.out)) hb); have m104_ := Aside0.mk (blk_below (g := gb104) (o := .cells #[.int .i64 t101, .slice Av102 t102.length cv102] 24 (0, 0)) (by (with_reducible repeat (first | refine blk_drewN ?_ _ | refine blk_drew ?_ | refine blk_alloc ?_ _)); exact BK104.out) hb); have m108_ := Aside0.mk (blk_below (g := gb108) (o := .cells #[.int .i64 t105, .slice Av106 t106.length cv106] 24 (0, 0)) (by (with_reducible repeat (first | refine blk_drewN ?_ _ | refine blk_drew ?_ | refine blk_alloc ?_ _)); exact BK108.out) hb); clear HO102; clear HO106; clear HO114; clear BK104; clear BK108; clear HB; have HO102 := n0_; have HO106 := n1_; have HO114 := n2_; have HB := nb_; have BK104 := m104_; have BK108 := m108_; have BK116 := Aside0.mk hbox; clear n0_ n1_ n2_ nb_ m104_ m108_; clear hb hbox hg; (try clear hcz104_0 hfz104_0); have hcz104_0 : w15_.cell? ⟨gb104, 0, none⟩ = some (.int .i64 t101) := (blk_cell BK104.out 0).trans rfl; have hfz104_0 := blk_frozen BK104.out 0; (try clear hcz104_1 hfz104_1); have hcz104_1 : w15_.cell? ⟨gb104, 1, none⟩ = some (.slice Av102 t102.length cv102) := (blk_cell BK104.out 1).trans rfl; have hfz104_1 := blk_frozen BK104.out 1; (try clear hcz108_0 hfz108_0); have hcz108_0 : w15_.cell? ⟨gb108, 0, none⟩ = some (.int .i64 t105) := (blk_cell BK108.out 0).trans rfl; have hfz108_0 := blk_frozen BK108.out 0; (try clear hcz108_1 hfz108_1); have hcz108_1 : w15_.cell? ⟨gb108, 1, none⟩ = some (.slice Av106 t106.length cv106) := (blk_cell BK108.out 1).trans rfl; have hfz108_1 := blk_frozen BK108.out 1; (try clear hcz116_0 hfz116_0); have hcz116_0 : w15_.cell? ⟨gb116, 0, none⟩ = some (.int .i64 0) := (blk_cell BK116.out 0).trans rfl; have hfz116_0 := blk_frozen BK116.out 0; (try clear hcz116_1 hfz116_1); have hcz116_1 : w15_.cell? ⟨gb116, 1, none⟩ = some (.slice none 0 0) := (blk_cell BK116.out 1).trans rfl; have hfz116_1 := blk_frozen BK116.out 1) | ((with_reducible refine gate_store (t := 24) (p := 9) rfl ?_); refine store_event (t := 24) (p := 9) (v := ?vo_w16_) (w1 := ((w15_.setCell ⟨gb116, 0, none⟩ (.int .i64 t113)).setCell ⟨gb116, 1, none⟩ (.slice Av114 t114.length cv114))) ?hg ?ho ?hn ?hr ?_; (case ho => rfl); (case hg => rfl); (case hn => rfl); (case hr => first | (go_simp; done) | (go_simp; rfl)); intro w16_ hw; have HZ16 := Aside0.mk (show w15_.heap.size ≤ w16_.heap.size from by rw [hw]; simp [World.setCell]); have n0_ := Aside0.mk ((show Kd.S (Kd.slice 2 (Kd.int .i64)) 36 w16_ w.heap.size (fun k_ => True ∧ w.heap.size ≤ k_ ∧ k_ < w1_.heap.size) (.slice Av102 t102.length cv102) t102 from by rw [hw]; exact Kd.S_mono (Kd.S_far (p := ⟨gb116, 1, none⟩) (Kd.S_far (p := ⟨gb116, 0, none⟩) (Kd.S_mono (by (with_reducible repeat (first | apply Kd.S_alloc | apply Kd.S_drewN | apply Kd.S_drew)); exact HO102.out) (fun k_ hk_ => (⟨hk_, by have a_ := hk_.2; have z1_ := HZ1.out; have z2_ := HZ2.out; have z3_ := HZ3.out; have z4_ := HZ4.out; have z5_ := HZ5.out; have z6_ := HZ6.out; have z7_ := HZ7.out; have z10_ := HZ10.out; have z11_ := HZ11.out; have z14_ := HZ14.out; have z15_ := HZ15.out; have z16_ := HZ16.out; have x104_ := GL104.out; have y104_ := GU104.out; have x108_ := GL108.out; have y108_ := GU108.out; have x116_ := GL116.out; have y116_ := GU116.out; omega⟩ : _ ∧ k_ ≠ gb116))) (fun _ hk_ => hk_.2) (.int .i64 t113)) (fun _ hk_ => hk_.2) (.slice Av114 t114.length cv114)) (fun _ hk_ => hk_.1))); have n1_ := Aside0.mk ((show Kd.S (Kd.slice 2 (Kd.int .i64)) 36 w16_ w.heap.size (fun k_ => True ∧ w3_.heap.size ≤ k_ ∧ k_ < w4_.heap.size) (.slice Av106 t111.length cv106) t111 from by rw [hw]; exact Kd.S_mono (Kd.S_far (p := ⟨gb116, 1, none⟩) (Kd.S_far (p := ⟨gb116, 0, none⟩) (Kd.S_mono (by (with_reducible repeat (first | apply Kd.S_alloc | apply Kd.S_drewN | apply Kd.S_drew)); exact HO106.out) (fun k_ hk_ => (⟨hk_, by have a_ := hk_.2; have z1_ := HZ1.out; have z2_ := HZ2.out; have z3_ := HZ3.out; have z4_ := HZ4.out; have z5_ := HZ5.out; have z6_ := HZ6.out; have z7_ := HZ7.out; have z10_ := HZ10.out; have z11_ := HZ11.out; have z14_ := HZ14.out; have z15_ := HZ15.out; have z16_ := HZ16.out; have x104_ := GL104.out; have y104_ := GU104.out; have x108_ := GL108.out; have y108_ := GU108.out; have x116_ := GL116.out; have y116_ := GU116.out; omega⟩ : _ ∧ k_ ≠ gb116))) (fun _ hk_ => hk_.2) (.int .i64 t113)) (fun _ hk_ => hk_.2) (.slice Av114 t114.length cv114)) (fun _ hk_ => hk_.1))); have n2_ := Aside0.mk ((show Kd.S (Kd.slice 2 (Kd.int .i64)) 36 w16_ w.heap.size (fun k_ => True ∧ w11_.heap.size ≤ k_ ∧ k_ < w14_.heap.size) (.slice Av114 t114.length cv114) t114 from by rw [hw]; exact Kd.S_mono (Kd.S_far (p := ⟨gb116, 1, none⟩) (Kd.S_far (p := ⟨gb116, 0, none⟩) (Kd.S_mono (by (with_reducible repeat (first | apply Kd.S_alloc | apply Kd.S_drewN | apply Kd.S_drew)); exact HO114.out) (fun k_ hk_ => (⟨hk_, by have a_ := hk_.2; have z1_ := HZ1.out; have z2_ := HZ2.out; have z3_ := HZ3.out; have z4_ := HZ4.out; have z5_ := HZ5.out; have z6_ := HZ6.out; have z7_ := HZ7.out; have z10_ := HZ10.out; have z11_ := HZ11.out; have z14_ := HZ14.out; have z15_ := HZ15.out; have z16_ := HZ16.out; have x104_ := GL104.out; have y104_ := GU104.out; have x108_ := GL108.out; have y108_ := GU108.out; have x116_ := GL116.out; have y116_ := GU116.out; omega⟩ : _ ∧ k_ ≠ gb116))) (fun _ hk_ => hk_.2) (.int .i64 t113)) (fun _ hk_ => hk_.2) (.slice Av114 t114.length cv114)) (fun _ hk_ => hk_.1))); have nb_ := Aside0.mk ((show Below w.heap.size w w16_ from by rw [hw]; exact below_set (below_set (HB.out) GE116.out) GE116.out)); have m104_ := Aside0.mk (show w16_.heap[gb104]? = some (.cells #[.int .i64 t101, .slice Av102 t102.length cv102] 24 (0, 0)) from by rw [hw]; refine blk_far (p := ⟨gb116, 1, none⟩) ?_ (show gb104 ≠ gb116 from by have z1_ := HZ1.out; have z2_ := HZ2.out; have z3_ := HZ3.out; have z4_ := HZ4.out; have z5_ := HZ5.out; have z6_ := HZ6.out; have z7_ := HZ7.out; have z10_ := HZ10.out; have z11_ := HZ11.out; have z14_ := HZ14.out; have z15_ := HZ15.out; have z16_ := HZ16.out; have x104_ := GL104.out; have y104_ := GU104.out; have x108_ := GL108.out; have y108_ := GU108.out; have x116_ := GL116.out; have y116_ := GU116.out; omega) _; refine blk_far (p := ⟨gb116, 0, none⟩) ?_ (show gb104 ≠ gb116 from by have z1_ := HZ1.out; have z2_ := HZ2.out; have z3_ := HZ3.out; have z4_ := HZ4.out; have z5_ := HZ5.out; have z6_ := HZ6.out; have z7_ := HZ7.out; have z10_ := HZ10.out; have z11_ := HZ11.out; have z14_ := HZ14.out; have z15_ := HZ15.out; have z16_ := HZ16.out; have x104_ := GL104.out; have y104_ := GU104.out; have x108_ := GL108.out; have y108_ := GU108.out; have x116_ := GL116.out; have y116_ := GU116.out; omega) _; exact BK104.out); have m108_ := Aside0.mk (show w16_.heap[gb108]? = some (.cells #[.int .i64 t105, .slice Av106 t106.length cv106] 24 (0, 0)) from by rw [hw]; refine blk_far (p := ⟨gb116, 1, none⟩) ?_ (show gb108 ≠ gb116 from by have z1_ := HZ1.out; have z2_ := HZ2.out; have z3_ := HZ3.out; have z4_ := HZ4.out; have z5_ := HZ5.out; have z6_ := HZ6.out; have z7_ := HZ7.out; have z10_ := HZ10.out; have z11_ := HZ11.out; have z14_ := HZ14.out; have z15_ := HZ15.out; have z16_ := HZ16.out; have x104_ := GL104.out; have y104_ := GU104.out; have x108_ := GL108.out; have y108_ := GU108.out; have x116_ := GL116.out; have y116_ := GU116.out; omega) _; refine blk_far (p := ⟨gb116, 0, none⟩) ?_ (show gb108 ≠ gb116 from by have z1_ := HZ1.out; have z2_ := HZ2.out; have z3_ := HZ3.out; have z4_ := HZ4.out; have z5_ := HZ5.out; have z6_ := HZ6.out; have z7_ := HZ7.out; have z10_ := HZ10.out; have z11_ := HZ11.out; have z14_ := HZ14.out; have z15_ := HZ15.out; have z16_ := HZ16.out; have x104_ := GL104.out; have y104_ := GU104.out; have x108_ := GL108.out; have y108_ := GU108.out; have x116_ := GL116.out; have y116_ := GU116.out; omega) _; exact BK108.out); have m116_ := Aside0.mk (show w16_.heap[gb116]? = some (.cells #[.int .i64 t113, .slice Av114 t114.length cv114] 24 (0, 0)) from by rw [hw]; refine blk_put (cs := #[.int .i64 t113, .slice none 0 0]) ?_ 1 _ rfl; refine blk_put (cs := #[.int .i64 0, .slice none 0 0]) ?_ 0 _ rfl; exact BK116.out); have gu_ := Aside0.mk (show gb116 < w16_.heap.size from blk_lt m116_.out); clear HO102; clear HO106; clear HO114; clear BK104; clear BK108; clear BK116; clear HB; clear GU116; have GU116 := gu_; clear gu_; have HO102 := n0_; have HO106 := n1_; have HO114 := n2_; have HB := nb_; have BK104 := m104_; have BK108 := m108_; have BK116 := m116_; clear n0_ n1_ n2_ nb_ m104_ m108_ m116_; clear hw; (try clear hcz104_0 hfz104_0); have hcz104_0 : w16_.cell? ⟨gb104, 0, none⟩ = some (.int .i64 t101) := (blk_cell BK104.out 0).trans rfl; have hfz104_0 := blk_frozen BK104.out 0; (try clear hcz104_1 hfz104_1); have hcz104_1 : w16_.cell? ⟨gb104, 1, none⟩ = some (.slice Av102 t102.length cv102) := (blk_cell BK104.out 1).trans rfl; have hfz104_1 := blk_frozen BK104.out 1; (try clear hcz108_0 hfz108_0); have hcz108_0 : w16_.cell? ⟨gb108, 0, none⟩ = some (.int .i64 t105) := (blk_cell BK108.out 0).trans rfl; have hfz108_0 := blk_frozen BK108.out 0; (try clear hcz108_1 hfz108_1); have hcz108_1 : w16_.cell? ⟨gb108, 1, none⟩ = some (.slice Av106 t106.length cv106) := (blk_cell BK108.out 1).trans rfl; have hfz108_1 := blk_frozen BK108.out 1; (try clear hcz116_0 hfz116_0); have hcz116_0 : w16_.cell? ⟨gb116, 0, none⟩ = some (.int .i64 t113) := (blk_cell BK116.out 0).trans rfl; have hfz116_0 := blk_frozen BK116.out 0; (try clear hcz116_1 hfz116_1); have hcz116_1 : w16_.cell? ⟨gb116, 1, none⟩ = some (.slice Av114 t114.length cv114) := (blk_cell BK116.out 1).trans rfl; have hfz116_1 := blk_frozen BK116.out 1) | ((with_reducible refine gate_callee (f := 6) rfl ?_); refine goesL_ (some 51) rfl rfl Tryd.func6 (by kernel_rfl) rfl #[.agg #[.int .i64 t113, .slice Av114 t114.length cv114], .agg #[.int .i64 t101, .slice Av102 t102.length cv102]] rfl (by (try simp only [List.map_toArray, List.map_cons, List.map_nil]); first | done | rfl | (simp only [EL10_0.out]; done) | (simp only [EL10_0.out]; rfl)) ?_; (with_reducible refine (laws_eqTable.calls k t113 _ _ t114 t101 _ _ t102 true _ ?side1 ?side2 ?side3 ?side4 X17_.out).mono ?_); (case side1 => repeat (first | exact (Kd.S_reads' HO114.out).2.2 | (with_reducible refine Kd.C_alloc ?_ _) | (with_reducible refine Kd.C_drewN ?_ _) | (with_reducible refine Kd.C_drew ?_))); (case side2 => exact (Kd.S_reads' HO114.out).2.1); (case side3 => repeat (first | exact (Kd.S_reads' HO102.out).2.2 | (with_reducible refine Kd.C_alloc ?_ _) | (with_reducible refine Kd.C_drewN ?_ _) | (with_reducible refine Kd.C_drew ?_))); (case side4 => exact (Kd.S_reads' HO102.out).2.1); rintro e w17_ ⟨rfl, hb⟩; refine ⟨_, rfl, ?_⟩; have HZ17 := Aside0.mk (show w16_.heap.size ≤ w17_.heap.size from hb.size); have m104_ := Aside0.mk (blk_below (g := gb104) (o := .cells #[.int .i64 t101, .slice Av102 t102.length cv102] 24 (0, 0)) (by (with_reducible repeat (first | refine blk_drewN ?_ _ | refine blk_drew ?_ | refine blk_alloc ?_ _)); exact BK104.out) hb); have m108_ := Aside0.mk (blk_below (g := gb108) (o := .cells #[.int .i64 t105, .slice Av106 t106.length cv106] 24 (0, 0)) (by (with_reducible repeat (first | refine blk_drewN ?_ _ | refine blk_drew ?_ | refine blk_alloc ?_ _)); exact BK108.out) hb); have m116_ := Aside0.mk (blk_below (g := gb116) (o := .cells #[.int .i64 t113, .slice Av114 t114.length cv114] 24 (0, 0)) (by (with_reducible repeat (first | refine blk_drewN ?_ _ | refine blk_drew ?_ | refine blk_alloc ?_ _)); exact BK116.out) hb); have n0_ := Aside0.mk (Kd.S_below (by (with_reducible repeat (first | apply Kd.S_alloc | apply Kd.S_drewN | apply Kd.S_drew)); exact HO102.out) hb); have n1_ := Aside0.mk (Kd.S_below (by (with_reducible repeat (first | apply Kd.S_alloc | apply Kd.S_drewN | apply Kd.S_drew)); exact HO106.out) hb); have n2_ := Aside0.mk (Kd.S_below (by (with_reducible repeat (first | apply Kd.S_alloc | apply Kd.S_drewN | apply Kd.S_drew)); exact HO114.out) hb); have nb_ := Aside0.mk (below_step (by repeat (first | (with_reducible first | exact HB.out | apply below_alloc | apply pw_below_drewN | apply below_drew1) | exact HB.out)) hb); clear HO102; clear HO106; clear HO114; clear BK104; clear BK108; clear BK116; clear HB; have HO102 := n0_; have HO106 := n1_; have HO114 := n2_; have HB := nb_; clear n0_ n1_ n2_ nb_; (try clear hb); (try clear hkp); (try clear hd); have BK104 := m104_; have BK108 := m108_; have BK116 := m116_; clear m104_ m108_ m116_; (try clear hcz104_0 hfz104_0); have hcz104_0 : w17_.cell? ⟨gb104, 0, none⟩ = some (.int .i64 t101) := (blk_cell BK104.out 0).trans rfl; have hfz104_0 := blk_frozen BK104.out 0; (try clear hcz104_1 hfz104_1); have hcz104_1 : w17_.cell? ⟨gb104, 1, none⟩ = some (.slice Av102 t102.length cv102) := (blk_cell BK104.out 1).trans rfl; have hfz104_1 := blk_frozen BK104.out 1; (try clear hcz108_0 hfz108_0); have hcz108_0 : w17_.cell? ⟨gb108, 0, none⟩ = some (.int .i64 t105) := (blk_cell BK108.out 0).trans rfl; have hfz108_0 := blk_frozen BK108.out 0; (try clear hcz108_1 hfz108_1); have hcz108_1 : w17_.cell? ⟨gb108, 1, none⟩ = some (.slice Av106 t106.length cv106) := (blk_cell BK108.out 1).trans rfl; have hfz108_1 := blk_frozen BK108.out 1; (try clear hcz116_0 hfz116_0); have hcz116_0 : w17_.cell? ⟨gb116, 0, none⟩ = some (.int .i64 t113) := (blk_cell BK116.out 0).trans rfl; have hfz116_0 := blk_frozen BK116.out 0; (try clear hcz116_1 hfz116_1); have hcz116_1 : w17_.cell? ⟨gb116, 1, none⟩ = some (.slice Av114 t114.length cv114) := (blk_cell BK116.out 1).trans rfl; have hfz116_1 := blk_frozen BK116.out 1; (try clear HO102); (try clear HO114)) | ((with_reducible refine gate_callee (f := 8) rfl ?_); refine goesL_ (some 60) rfl rfl Tryd.func8 (by kernel_rfl) rfl #[.agg #[.int .i64 t105, .slice Av106 t111.length cv106], .int .i64 1] rfl (by (try simp only [List.map_toArray, List.map_cons, List.map_nil]); first | done | rfl | (simp only [EL10_0.out]; done) | (simp only [EL10_0.out]; rfl)) ?_; (with_reducible refine (laws_heldTable.calls k t105 _ _ t111 1 t118 _ ?side1 ?side2 X20_.out).mono ?_); (case side1 => repeat (first | exact (Kd.S_reads' HO106.out).2.2 | (with_reducible refine Kd.C_alloc ?_ _) | (with_reducible refine Kd.C_drewN ?_ _) | (with_reducible refine Kd.C_drew ?_))); (case side2 => exact (Kd.S_reads' HO106.out).2.1); rintro e w20_ ⟨rfl, hb⟩; refine ⟨_, rfl, ?_⟩; have HZ20 := Aside0.mk (show w17_.heap.size ≤ w20_.heap.size from hb.size); have m104_ := Aside0.mk (blk_below (g := gb104) (o := .cells #[.int .i64 t101, .slice Av102 t102.length cv102] 24 (0, 0)) (by (with_reducible repeat (first | refine blk_drewN ?_ _ | refine blk_drew ?_ | refine blk_alloc ?_ _)); exact BK104.out) hb); have m108_ := Aside0.mk (blk_below (g := gb108) (o := .cells #[.int .i64 t105, .slice Av106 t106.length cv106] 24 (0, 0)) (by (with_reducible repeat (first | refine blk_drewN ?_ _ | refine blk_drew ?_ | refine blk_alloc ?_ _)); exact BK108.out) hb); have m116_ := Aside0.mk (blk_below (g := gb116) (o := .cells #[.int .i64 t113, .slice Av114 t114.length cv114] 24 (0, 0)) (by (with_reducible repeat (first | refine blk_drewN ?_ _ | refine blk_drew ?_ | refine blk_alloc ?_ _)); exact BK116.out) hb); have n0_ := Aside0.mk (Kd.S_below (by (with_reducible repeat (first | apply Kd.S_alloc | apply Kd.S_drewN | apply Kd.S_drew)); exact HO106.out) hb); have nb_ := Aside0.mk (below_step (by repeat (first | (with_reducible first | exact HB.out | apply below_alloc | apply pw_below_drewN | apply below_drew1) | exact HB.out)) hb); clear HO106; clear BK104; clear BK108; clear BK116; clear HB; have HO106 := n0_; have HB := nb_; clear n0_ nb_; (try clear hb); (try clear hkp); (try clear hd); have BK104 := m104_; have BK108 := m108_; have BK116 := m116_; clear m104_ m108_ m116_; (try clear hcz104_0 hfz104_0); have hcz104_0 : w20_.cell? ⟨gb104, 0, none⟩ = some (.int .i64 t101) := (blk_cell BK104.out 0).trans rfl; have hfz104_0 := blk_frozen BK104.out 0; (try clear hcz104_1 hfz104_1); have hcz104_1 : w20_.cell? ⟨gb104, 1, none⟩ = some (.slice Av102 t102.length cv102) := (blk_cell BK104.out 1).trans rfl; have hfz104_1 := blk_frozen BK104.out 1; (try clear hcz108_0 hfz108_0); have hcz108_0 : w20_.cell? ⟨gb108, 0, none⟩ = some (.int .i64 t105) := (blk_cell BK108.out 0).trans rfl; have hfz108_0 := blk_frozen BK108.out 0; (try clear hcz108_1 hfz108_1); have hcz108_1 : w20_.cell? ⟨gb108, 1, none⟩ = some (.slice Av106 t106.length cv106) := (blk_cell BK108.out 1).trans rfl; have hfz108_1 := blk_frozen BK108.out 1; (try clear hcz116_0 hfz116_0); have hcz116_0 : w20_.cell? ⟨gb116, 0, none⟩ = some (.int .i64 t113) := (blk_cell BK116.out 0).trans rfl; have hfz116_0 := blk_frozen BK116.out 0; (try clear hcz116_1 hfz116_1); have hcz116_1 : w20_.cell? ⟨gb116, 1, none⟩ = some (.slice Av114 t114.length cv114) := (blk_cell BK116.out 1).trans rfl; have hfz116_1 := blk_frozen BK116.out 1; (try clear HO106)))
    go_ret
    exact ⟨by first | rfl | (simp [errW_none, errW_some] <;> rfl) | (simp [*, errW_none, errW_some] <;> rfl), by repeat (first | (with_reducible first | exact HB.out | apply below_alloc | apply pw_below_drewN | apply below_drew1) | exact HB.out)⟩

/-- The one pure statement of laws_FnExactReadTable. -/
def laws_FnExactReadTable.Pure : Prop := ∀ (a0 : ByteArray), a0.size ≤ 140737488351232 → ∃ k, laws_FnExactReadTable.f k a0 = some true

end Go.Proofs.YtknopokgbechlaaDoor.PFnExactReadTable
