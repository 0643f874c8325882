/- Written by this session's program (wip/tool/xprint.py) over the kit's printer. -/
import Derived.Test.YtkcdmmegdhiabaaPFnExactDeviationsOfx0
import Derived.Test.YtkcdmmegdhiabaaPFnExactDeviationsOfx1
import Derived.Test.YtkcdmmegdhiabaaPFnExactDeviationsOfx2
import Derived.Test.YtkcdmmegdhiabaaPFnExactDeviationsOfx3
import Derived.Test.YtkcdmmegdhiabaaPFnExactDeviationsOfx4
namespace Go.Proofs.Ytkcdmmegdhiabaa.PFnExactDeviationsOf
open Go.RowKit Go.Proofs.YtkcdmmegdhiabaaW.PrintWords Go.Proofs.YtkcdmmegdhiabaaW.PrintLast Go.Proofs.YtkcdmmegdhiabaaW.PrintMore
attribute [local go_sem] max2_int min2_int max_two min_two max_three min_three max_four min_four   -- for this text's walks alone
set_option linter.unusedVariables false
set_option linter.unusedSimpArgs false

/-! ### impl_deviations: function 44 -/
def impl_deviations.l0 : Nat → List Int → List Int → List Int → List Int → Int → Int → Option (List Int)
  | 0, _, _, _, _, _, _ => none
  | k + 1, x0, x1, x5, x9, x10, x11 => if x11 < x10 then (if 0 ≤ x11 then (if x11 < (x9.length : Int) then ((impl_sum.f k x0).bind fun t192 => (if x11 < (x1.length : Int) then ((impl_sum.f k x1).bind fun t194 => (if x5.length < 17592186044416 then (impl_deviations.l0 k x0 x1 (x5 ++ [wrap64 ((wrap64 (t192 * (rd x1 x11))) - (wrap64 (t194 * (rd x9 x11))))]) x9 x10 (wrap64 (x11 + 1))) else (none))) else (none))) else (none)) else (none)) else (some x5)
def impl_deviations.f (k : Nat) (l0 : List Int) (l1 : List Int) : Option (List Int) := impl_deviations.l0 k l0 l1 (([] : List Int)) l0 (l0.length : Int) 0
theorem impl_deviations.mono_l : ∀ k, (∀ y0 y1 y2 y3 y4 y5, LeO (impl_deviations.l0 k y0 y1 y2 y3 y4 y5) (impl_deviations.l0 (k + 1) y0 y1 y2 y3 y4 y5))
  | 0 => fun _ _ _ _ _ _ r h => by simp [impl_deviations.l0] at h
  | k + 1 => by
    have ih0 := impl_deviations.mono_l k
    · intro y0 y1 y2 y3 y4 y5
      unfold impl_deviations.l0
      repeat' first
      | (with_reducible exact ih0 _ _ _ _ _ _)
      | (with_reducible exact impl_sum.mono _ _)
      | (with_reducible exact LeO.refl _)
      | (with_reducible exact LeO.none _)
      | (with_reducible refine LeO.ite ?_ ?_)
      | (with_reducible refine LeO.bind ?_ (fun _ => ?_))
      | exact ih0 _ _ _ _ _ _
      | exact impl_sum.mono _ _
      | exact LeO.none _
      | refine LeO.ite ?_ ?_
      | refine LeO.bind ?_ (fun _ => ?_)
theorem impl_deviations.mono : ∀ a0 a1 k, LeO (impl_deviations.f k a0 a1) (impl_deviations.f (k + 1) a0 a1) := by
  intro a0 a1 k
  have ih0 := impl_deviations.mono_l k
  unfold impl_deviations.f
  repeat' first
      | (with_reducible exact ih0 _ _ _ _ _ _)
      | (with_reducible exact impl_sum.mono _ _)
      | (with_reducible exact LeO.refl _)
      | (with_reducible exact LeO.none _)
      | (with_reducible refine LeO.ite ?_ ?_)
      | (with_reducible refine LeO.bind ?_ (fun _ => ?_))
      | exact ih0 _ _ _ _ _ _
      | exact impl_sum.mono _ _
      | exact LeO.none _
      | refine LeO.ite ?_ ?_
      | refine LeO.bind ?_ (fun _ => ?_)
def impl_deviations.T5 : Bool × List (List Nat × List Nat) := (true, [([], []), ([], []), ([1], [1]), ([], []), ([], []), ([3, 4], [3, 4]), ([5], [5]), ([2, 6], [2, 6]), ([], []), ([8, 2], [8]), ([], []), ([9, 10], [9, 10]), ([7, 11], [7, 11]), ([12], [12]), ([0, 13, 9], [0, 13]), ([14, 14, 0, 1, 2, 3, 4, 5, 6, 7, 8, 9, 10, 11, 12, 13, 14], [0, 14])])
def impl_deviations.B5 : List Nat := [0, 0, 2, 0, 0, 24, 56, 126, 0, 262, 0, 1798, 4094, 8190, 16383, 32767]
theorem impl_deviations.tab5 : rtab .any (opsOf Try.f44 5) = impl_deviations.T5 := by kernel_rfl
theorem impl_deviations.bits5 : waitsOk impl_deviations.T5.2 impl_deviations.B5 = true := by kernel_rfl
set_option maxHeartbeats 8000000 in
set_option maxRecDepth 100000 in
theorem impl_deviations.calls (k : Nat) (A0 : Option Addr) (c0 : Nat) (l0 : List Int) (A1 : Option Addr) (c1 : Nat) (l1 : List Int) (r : List Int) (w : World) (hr0 : Kd.C (Kd.int .i64) w A0 l0.length l0) (hc0 : l0.length ≤ c0) (hr1 : Kd.C (Kd.int .i64) w A1 l1.length l1) (hc1 : l1.length ≤ c1) (h : impl_deviations.f k l0 l1 = some r) :
    Calls Try.prog 44 #[.slice A0 l0.length c0, .slice A1 l1.length c1] w fun e w' => ∃ v0_ : Value, e = .returned (v0_) ∧ Kd.R (Kd.int .i64) 2 w' w.heap.size (fun _ => True) v0_ r ∧ Below w.heap.size w w' := by
  have HR0 := Aside0.mk hr0
  have HC0 := Aside0.mk hc0
  clear hr0 hc0
  have HR1 := Aside0.mk hr1
  have HC1 := Aside0.mk hc1
  clear hr1 hc1
  have HB := Aside0.mk (Below.refl w.heap.size w)
  have H : (impl_deviations.l0 k l0 l1 (([] : List Int)) l0 (l0.length : Int) 0) = some r := h
  clear h
  obtain ⟨y188, hy188⟩ : ∃ y_ : List Int, y_ = (([] : List Int)) := ⟨_, rfl⟩
  replace H : (impl_deviations.l0 k l0 l1 y188 l0 (l0.length : Int) 0) = some r := by first | (rw [hy188]; with_reducible exact H) | (have H2_ := (Option.bind_some _ _).symm.trans H; rw [hy188]; with_reducible exact H2_) | (have H2_ := (Option.bind_some _ _).symm.trans H; with_reducible exact H2_) | with_reducible exact H | (rw [hy188]; exact H) | exact H
  have Ny188 := Aside0.mk hy188
  clear hy188
  have H' := Aside0.mk H
  clear H
  go_enter Try.func44, Try.ntmps44
  go_wp2_with (first | ((with_reducible refine gate_dst (N := 8) rfl ?_); refine Kd.R_lit (Kd.int .i64) _ 2 ?hg (N := 8) ?hd (xs := ([] : List Int)) (inner := []) (ok := fun _ => True) (okp := fun _ => True) ?hr ?hp (fun _ hk => hk) trivial (Below.refl _ _) (Nat.le_refl _) (by simp) ?_; (case hd => rfl); (case hg => rfl); (case hr => first | (go_simp; done) | (go_simp; rfl)); (case hp => exact (Reps.none _ _)); intro v189 w3 ho4 hb hg_ hnew_; clear hg_ hnew_; (first | rw [← Ny188.out] at ho4 | (simp only [Int.reduceToNat] at ho4; rw [← Ny188.out] at ho4)); have n0_ := Aside0.mk (Kd.R_lower ho4 (below_size (by repeat (first | (with_reducible first | exact HB.out | apply below_alloc | apply pw_below_drewN | apply below_drew1) | exact HB.out)))); have n1_ := Aside0.mk (below_step (by repeat (first | (with_reducible first | exact HB.out | apply below_alloc | apply pw_below_drewN | apply below_drew1) | exact HB.out)) hb); clear HB; have HO190 := n0_; have HB := n1_; clear n0_ n1_; clear hb ho4))
  go_loopg [5, 11] k (fun kq v5 v11 w' => ∃ (x5_1 : List Int) (x11_1 : Int), v11 = .int .i64 x11_1 ∧ Aside0 (impl_deviations.l0 kq l0 l1 x5_1 l0 (l0.length : Int) x11_1 = some r) ∧ Aside0 (kq ≤ k) ∧ Aside0 (Kd.R (Kd.int .i64) 2 w' w.heap.size (fun _ => True) v5 x5_1) ∧ Aside0 (Below w.heap.size w w'))
  case atStart => exact ⟨(y188), (0), (by first | rfl | (simp; done) | (simp [*]; done)), H', ⟨Nat.le_refl _⟩, ⟨by (with_reducible repeat (first | apply Kd.R_alloc | apply Kd.R_drewN | apply Kd.R_drew)); exact HO190.out⟩, ⟨by repeat (first | (with_reducible first | exact HB.out | apply below_alloc | apply pw_below_drewN | apply below_drew1) | exact HB.out)⟩⟩
  case round =>
    clear H'
    try clear c1
    try clear p2
    try clear c4
    obtain ⟨x5_1, x11_1, rfl, HA, HK1, HO_5, HB⟩ := hrel
    cases gk with
    | zero => exact absurd HA.out (by simp [impl_deviations.l0])
    | succ k1 =>
      have H := HA.out
      clear HA
      simp only [impl_deviations.l0] at H
      by_cases c5 : x11_1 < (l0.length : Int)
      · rw [if_pos c5] at H
        have c5b0 : decide (x11_1 < (l0.length : Int)) = true := decide_eq_true c5
        clear c5
        by_cases c6 : 0 ≤ x11_1
        · rw [if_pos c6] at H
          have c6b0 : decide (0 ≤ x11_1) = true := decide_eq_true c6
          clear c6
          by_cases c7 : x11_1 < (l0.length : Int)
          · rw [if_pos c7] at H
            have c7b0 : decide (x11_1 < (l0.length : Int)) = true := decide_eq_true c7
            clear c7
            replace H := Option.bind_eq_some_iff.mp H
            obtain ⟨t192, A80, H⟩ := H
            replace H : (if x11_1 < (l1.length : Int) then ((impl_sum.f k1 l1).bind fun t194 => (if x5_1.length < 17592186044416 then (impl_deviations.l0 k1 l0 l1 (x5_1 ++ [wrap64 ((wrap64 (t192 * (rd l1 x11_1))) - (wrap64 (t194 * (rd l0 x11_1))))]) l0 (l0.length : Int) (wrap64 (x11_1 + 1))) else (none))) else (none)) = some r := H
            have A8 := Aside0.mk A80
            clear A80
            by_cases c9 : x11_1 < (l1.length : Int)
            · rw [if_pos c9] at H
              have c9b0 : decide (x11_1 < (l1.length : Int)) = true := decide_eq_true c9
              clear c9
              replace H := Option.bind_eq_some_iff.mp H
              obtain ⟨t194, A100, H⟩ := H
              replace H : (if x5_1.length < 17592186044416 then (impl_deviations.l0 k1 l0 l1 (x5_1 ++ [wrap64 ((wrap64 (t192 * (rd l1 x11_1))) - (wrap64 (t194 * (rd l0 x11_1))))]) l0 (l0.length : Int) (wrap64 (x11_1 + 1))) else (none)) = some r := H
              have A10 := Aside0.mk A100
              clear A100
              by_cases c11 : x5_1.length < 17592186044416
              · rw [if_pos c11] at H
                have LMc11 := Aside0.mk c11
                clear c11
                obtain ⟨y195, hy195⟩ : ∃ y_ : List Int, y_ = (x5_1 ++ [wrap64 ((wrap64 (t192 * (rd l1 x11_1))) - (wrap64 (t194 * (rd l0 x11_1))))]) := ⟨_, rfl⟩
                replace H : (impl_deviations.l0 k1 l0 l1 y195 l0 (l0.length : Int) (wrap64 (x11_1 + 1))) = some r := by first | (rw [hy195]; with_reducible exact H) | (have H2_ := (Option.bind_some _ _).symm.trans H; rw [hy195]; with_reducible exact H2_) | (have H2_ := (Option.bind_some _ _).symm.trans H; with_reducible exact H2_) | with_reducible exact H | (rw [hy195]; exact H) | exact H
                have Ny195 := Aside0.mk hy195
                clear hy195
                have H' := Aside0.mk H
                clear H
                have p191 : 0 ≤ (x11_1 : Int) := of_decide_eq_true (by first | (with_reducible assumption) | assumption)
                have q191 : x11_1 < (l0.length : Int) := of_decide_eq_true (by first | (with_reducible assumption) | assumption)
                obtain ⟨ad191, e191, hx191_0⟩ := Kd.at_int HR0.out x11_1 p191 q191
                cases e191
                replace hx191_0 := (HB.out.cell (World.block_lt_of_cell? w _ hx191_0)).trans hx191_0
                replace p191 := eq_true p191
                replace q191 := eq_true q191
                try go_wp2
                have n0_ := Aside0.mk (Kd.R_drew HO_5.out)
                have n1_ := Aside0.mk (below_drew1 HB.out)
                clear HO_5
                clear HB
                have HO_5 := n0_
                have HB := n1_
                clear n0_ n1_
                have p193 : 0 ≤ (x11_1 : Int) := of_decide_eq_true (by first | (with_reducible assumption) | assumption)
                have q193 : x11_1 < (l1.length : Int) := of_decide_eq_true (by first | (with_reducible assumption) | assumption)
                obtain ⟨ad193, e193, hx193_0⟩ := Kd.at_int HR1.out x11_1 p193 q193
                have hw193_0 := hx193_0
                cases e193
                replace hx193_0 := (HB.out.cell (World.block_lt_of_cell? w _ hx193_0)).trans hx193_0
                replace p193 := eq_true p193
                replace q193 := eq_true q193
                refine start_ (n := 16) (S := fun w' => w'.cell? (ad193.add (x11_1).toNat) = some (.int .i64 (rd l1 x11_1))) (ds := []) #[false, false, false, false, false, false, false, false, false, false, false, false, false, false, false, false] (by kernel_rfl) rfl rfl (((HB.out.cell (World.block_lt_of_cell? w _ hw193_0)).trans hw193_0)) (fun hHeld => ?_); refine with_tabW impl_deviations.tab5 impl_deviations.bits5 (fun HT_ HW_ => ?_)
                generalize wr.drew = w12 at HO_5 HB hx193_0 hHeld ⊢
                refine pure_ (i := 0) (N := some 16) (v := ?_) (a' := ?_) #[true, false, false, false, false, false, false, false, false, false, false, false, false, false, false, false] rfl rfl (any_of HT_.out (by kernel_rfl)) (fun _ _ _ h => h) (Or.inl ⟨by rfl, ?_⟩) ?_ ?_
                rotate_left
                · intro w'
                  go_simp
                  with_reducible rfl
                rotate_left
                · simp only [Act.put, List.setIfInBounds_toArray, List.set_cons_zero, List.set_cons_succ, i64_w, i32_w]
                  rfl
                refine pure_ (i := 1) (N := some 17) (v := ?_) (a' := ?_) #[true, true, false, false, false, false, false, false, false, false, false, false, false, false, false, false] rfl rfl (any_of HT_.out (by kernel_rfl)) (fun _ _ _ h => h) (Or.inl ⟨by rfl, ?_⟩) ?_ ?_
                rotate_left
                · intro w'
                  go_simp
                  with_reducible rfl
                rotate_left
                · simp only [Act.put, List.setIfInBounds_toArray, List.set_cons_zero, List.set_cons_succ, i64_w, i32_w]
                  rfl
                refine pure_ (i := 3) (N := some 19) (v := ?_) (a' := ?_) #[true, true, false, true, false, false, false, false, false, false, false, false, false, false, false, false] rfl rfl (any_of HT_.out (by kernel_rfl)) (fun _ _ _ h => h) (Or.inl ⟨by rfl, ?_⟩) ?_ ?_
                rotate_left
                · intro w'
                  go_simp
                  with_reducible rfl
                rotate_left
                · simp only [Act.put, List.setIfInBounds_toArray, List.set_cons_zero, List.set_cons_succ, i64_w, i32_w]
                  rfl
                refine pure_ (i := 4) (N := some 20) (v := ?_) (a' := ?_) #[true, true, false, true, true, false, false, false, false, false, false, false, false, false, false, false] rfl rfl (any_of HT_.out (by kernel_rfl)) (fun _ _ _ h => h) (Or.inl ⟨by rfl, ?_⟩) ?_ ?_
                rotate_left
                · intro w'
                  go_simp
                  with_reducible rfl
                rotate_left
                · simp only [Act.put, List.setIfInBounds_toArray, List.set_cons_zero, List.set_cons_succ, i64_w, i32_w]
                  rfl
                refine pure_ (i := 5) (N := some 21) (v := ?_) (a' := ?_) #[true, true, false, true, true, true, false, false, false, false, false, false, false, false, false, false] rfl rfl (any_of HT_.out (by kernel_rfl)) (fun _ _ _ h => h) (Or.inl ⟨by rfl, ?_⟩) ?_ ?_
                rotate_left
                · intro w'
                  go_simp
                  with_reducible rfl
                rotate_left
                · simp only [Act.put, List.setIfInBounds_toArray, List.set_cons_zero, List.set_cons_succ, i64_w, i32_w]
                  rfl
                refine pure_ (i := 8) (N := some 24) (v := ?_) (a' := ?_) #[true, true, false, true, true, true, false, false, true, false, false, false, false, false, false, false] rfl rfl (any_of HT_.out (by kernel_rfl)) (fun _ _ _ h => h) (Or.inl ⟨by rfl, ?_⟩) ?_ ?_
                rotate_left
                · intro w'
                  go_simp
                  with_reducible rfl
                rotate_left
                · simp only [Act.put, List.setIfInBounds_toArray, List.set_cons_zero, List.set_cons_succ, i64_w, i32_w]
                  rfl
                refine pure_ (i := 10) (N := some 26) (v := ?_) (a' := ?_) #[true, true, false, true, true, true, false, false, true, false, true, false, false, false, false, false] rfl rfl (any_of HT_.out (by kernel_rfl)) (fun _ _ _ h => h) (Or.inl ⟨by rfl, ?_⟩) ?_ ?_
                rotate_left
                · intro w'
                  go_simp
                  with_reducible rfl
                rotate_left
                · simp only [Act.put, List.setIfInBounds_toArray, List.set_cons_zero, List.set_cons_succ, i64_w, i32_w]
                  rfl
                refine take_ (i := 6) (N := some 22) (v := ?_) (a' := ?_) #[true, true, false, true, true, true, true, false, true, false, true, false, false, false, false, false] rfl rfl (take_ofW HT_.out HW_.out (by kernel_rfl)) (fun _ _ _ h => h) (Or.inl ⟨by rfl, ?_⟩) hHeld ?_ ?_
                rotate_left
                · intro w' s0
                  go_simp
                  with_reducible rfl
                rotate_left
                · simp only [Act.put, List.setIfInBounds_toArray, List.set_cons_zero, List.set_cons_succ, i64_w, i32_w]
                  rfl
                refine one_ (i := 2) (N := some 18) #[true, true, true, true, true, true, true, false, true, false, true, false, false, false, false, false] rfl rfl (one_of HT_.out (by kernel_rfl)) (by decide) (fun K hK => ?_)
                refine goes_ Try.func36 (by kernel_rfl) rfl #[.slice (some ad191) l0.length c0] (by rfl) rfl rfl (by (try simp only [List.map_toArray, List.map_cons, List.map_nil]); first | done | rfl | (simp only [List.length_drop, List.length_take]; rfl)) ?_
                with_reducible refine (impl_sum.calls k1 _ _ l0 t192 _ ?side1 ?side2 A8.out).mono ?_
                (case side1 => repeat (first | exact (Kd.C_below HR0.out HB.out) | (with_reducible refine Kd.C_alloc ?_ _) | (with_reducible refine Kd.C_drewN ?_ _) | (with_reducible refine Kd.C_drew ?_)))
                (case side2 => exact HC0.out)
                rintro e w' ⟨rfl, ⟨nd, rfl⟩⟩
                refine ⟨_, rfl, ?_⟩
                refine hK.out _ _ (((HB.out.cell (World.block_lt_of_cell? w _ hw193_0)).trans hw193_0)) (fun hHeld => ?_)
                clear hK K
                refine norm_ (a' := ?_) ?_ ?_
                rotate_left
                · show Act.put _ (some 18) _ = _
                  simp only [Act.put, List.setIfInBounds_toArray, List.set_cons_zero, List.set_cons_succ, i64_w, i32_w]
                  rfl
                refine pure_ (i := 7) (N := some 23) (v := ?_) (a' := ?_) #[true, true, true, true, true, true, true, true, true, false, true, false, false, false, false, false] rfl rfl (any_of HT_.out (by kernel_rfl)) (fun _ _ _ h => h) (Or.inl ⟨by rfl, ?_⟩) ?_ ?_
                rotate_left
                · intro w'
                  go_simp
                  with_reducible rfl
                rotate_left
                · simp only [Act.put, List.setIfInBounds_toArray, List.set_cons_zero, List.set_cons_succ, i64_w, i32_w]
                  rfl
                refine one_ (i := 9) (N := some 25) #[true, true, true, true, true, true, true, true, true, true, true, false, false, false, false, false] rfl rfl (one_of HT_.out (by kernel_rfl)) (by decide) (fun K hK => ?_)
                refine goes_ Try.func36 (by kernel_rfl) rfl #[.slice (some ad193) l1.length c1] (by rfl) rfl rfl (by (try simp only [List.map_toArray, List.map_cons, List.map_nil]); first | done | rfl | (simp only [List.length_drop, List.length_take]; rfl)) ?_
                with_reducible refine (impl_sum.calls k1 _ _ l1 t194 _ ?side1 ?side2 A10.out).mono ?_
                (case side1 => repeat (first | exact (Kd.C_below HR1.out (by repeat (first | (with_reducible first | exact HB.out | apply below_alloc | apply pw_below_drewN | apply below_drew1) | exact HB.out))) | (with_reducible refine Kd.C_alloc ?_ _) | (with_reducible refine Kd.C_drewN ?_ _) | (with_reducible refine Kd.C_drew ?_)))
                (case side2 => exact HC1.out)
                rintro e w' ⟨rfl, ⟨nd, rfl⟩⟩
                refine ⟨_, rfl, ?_⟩
                refine hK.out _ _ (((HB.out.cell (World.block_lt_of_cell? w _ hw193_0)).trans hw193_0)) (fun hHeld => ?_)
                clear hK K
                refine norm_ (a' := ?_) ?_ ?_
                rotate_left
                · show Act.put _ (some 25) _ = _
                  simp only [Act.put, List.setIfInBounds_toArray, List.set_cons_zero, List.set_cons_succ, i64_w, i32_w]
                  rfl
                refine pure_ (i := 11) (N := some 27) (v := ?_) (a' := ?_) #[true, true, true, true, true, true, true, true, true, true, true, true, false, false, false, false] rfl rfl (any_of HT_.out (by kernel_rfl)) (fun _ _ _ h => h) (Or.inl ⟨by rfl, ?_⟩) ?_ ?_
                rotate_left
                · intro w'
                  go_simp
                  with_reducible rfl
                rotate_left
                · simp only [Act.put, List.setIfInBounds_toArray, List.set_cons_zero, List.set_cons_succ, i64_w, i32_w]
                  rfl
                refine pure_ (i := 12) (N := some 28) (v := ?_) (a' := ?_) #[true, true, true, true, true, true, true, true, true, true, true, true, true, false, false, false] rfl rfl (any_of HT_.out (by kernel_rfl)) (fun _ _ _ h => h) (Or.inl ⟨by rfl, ?_⟩) ?_ ?_
                rotate_left
                · intro w'
                  go_simp
                  with_reducible rfl
                rotate_left
                · simp only [Act.put, List.setIfInBounds_toArray, List.set_cons_zero, List.set_cons_succ, i64_w, i32_w]
                  rfl
                refine one_ (i := 13) (N := some 29) #[true, true, true, true, true, true, true, true, true, true, true, true, true, true, false, false] rfl rfl (one_of HT_.out (by kernel_rfl)) (by decide) (fun K hK => ?_)
                refine value_ (w1 := ?_) (v := ?_) (by rfl) rfl ?_ ?_
                rotate_left 2
                · go_simp
                  constructor
                  · rfl
                  · rfl
                refine hK.out _ _ ((World.cell?_alloc_lt _ _ _ (World.block_lt_of_cell? _ _ (((HB.out.cell (World.block_lt_of_cell? w _ hw193_0)).trans hw193_0)))).trans (((HB.out.cell (World.block_lt_of_cell? w _ hw193_0)).trans hw193_0))) (fun hHeld => ?_)
                clear hK K
                refine norm_ (a' := ?_) ?_ ?_
                rotate_left
                · show Act.put _ (some 29) _ = _
                  simp only [Act.put, List.setIfInBounds_toArray, List.set_cons_zero, List.set_cons_succ, i64_w, i32_w]
                  rfl
                refine one_ (i := 14) (N := some 30) #[true, true, true, true, true, true, true, true, true, true, true, true, true, true, true, false] rfl rfl (one_of HT_.out (by kernel_rfl)) (by decide) (fun K hK => ?_)
                refine Kd.R_append_step (Kd.int .i64) (w0 := w) w.heap.size (by rfl) (.tmp 16) (.tmp 29) 22 2 (.int .i64 0) 8 rfl Try.underlying22 info2 rfl (by decide) (by omega) u5 x5_1 (wrap64 ((wrap64 (t192 * (rd l1 x11_1))) - (wrap64 (t194 * (rd l0 x11_1))))) [.int .i64 (wrap64 ((wrap64 (t192 * (rd l1 x11_1))) - (wrap64 (t194 * (rd l0 x11_1)))))] (fun _ => True) (fun _ => False) rfl rfl ?aP (fun _ hk => hk.elim) ?aF ?aO ?aB ?aS ?aL ?_
                (case aP => exact rfl)
                (case aB => exact (by repeat (first | (with_reducible first | exact HB.out | apply below_alloc | apply pw_below_drewN | apply below_drew1) | exact HB.out)))
                (case aF => exact (fun _ _ => trivial))
                (case aO => exact (by (with_reducible repeat (first | apply Kd.R_alloc | apply Kd.R_drewN | apply Kd.R_drew)); exact HO_5.out))
                (case aS => exact (below_size (by repeat (first | (with_reducible first | exact HB.out | apply below_alloc | apply pw_below_drewN | apply below_drew1) | exact HB.out))))
                (case aL => have := LMc11.out; omega)
                intro v196 w13 ho hb hg hat
                rw [← Ny195.out] at ho
                have n0_ := Aside0.mk (hb)
                have n1_ := Aside0.mk (ho)
                clear HB
                clear HO_5
                have HB := n0_
                have HO197 := n1_
                clear n0_ n1_
                clear ho hb hg hat
                refine hK.out _ _ (((HB.out.cell (World.block_lt_of_cell? w _ hw193_0)).trans hw193_0)) (fun hHeld => ?_)
                clear hK K
                refine norm_ (a' := ?_) ?_ ?_
                rotate_left
                · show Act.put _ (some 30) _ = _
                  simp only [Act.put, List.setIfInBounds_toArray, List.set_cons_zero, List.set_cons_succ, i64_w, i32_w]
                  rfl
                refine pure_ (i := 15) (N := some 5) (v := ?_) (a' := ?_) #[true, true, true, true, true, true, true, true, true, true, true, true, true, true, true, true] rfl rfl (any_of HT_.out (by kernel_rfl)) (fun _ _ _ h => h) (Or.inl ⟨by rfl, ?_⟩) ?_ ?_
                rotate_left
                · intro w'
                  go_simp
                  with_reducible rfl
                rotate_left
                · simp only [Act.put, List.setIfInBounds_toArray, List.set_cons_zero, List.set_cons_succ, i64_w, i32_w]
                  rfl
                refine done_ (done_of HT_.out (by kernel_rfl)) ?_
                try go_wp2
                go_roundg k1
                case measure => have := HK1.out; omega
                case rel => exact ⟨(y195), (wrap64 (x11_1 + 1)), (by first | rfl | (simp; done) | (simp [*]; done)), H', ⟨by have := HK1.out; omega⟩, ⟨by (with_reducible repeat (first | apply Kd.R_alloc | apply Kd.R_drewN | apply Kd.R_drew)); exact HO197.out⟩, ⟨by repeat (first | (with_reducible first | exact HB.out | apply below_alloc | apply pw_below_drewN | apply below_drew1) | exact HB.out)⟩⟩
              · rw [if_neg c11] at H
                exact absurd H (by simp)
            · rw [if_neg c9] at H
              exact absurd H (by simp)
          · rw [if_neg c7] at H
            exact absurd H (by simp)
        · rw [if_neg c6] at H
          exact absurd H (by simp)
      · rw [if_neg c5] at H
        have c5b0 : decide (x11_1 < (l0.length : Int)) = false := decide_eq_false c5
        clear c5
        obtain rfl := Option.some.inj H
        go_wp2
        go_ret
        exact ⟨_, by first | rfl | (simp [errW_none, errW_some] <;> rfl) | (simp [*, errW_none, errW_some] <;> rfl), by (with_reducible repeat (first | apply Kd.R_alloc | apply Kd.R_drewN | apply Kd.R_drew)); exact HO_5.out, by repeat (first | (with_reducible first | exact HB.out | apply below_alloc | apply pw_below_drewN | apply below_drew1) | exact HB.out)⟩

/-! ### impl_DeviationsOf: function 19 -/
def impl_DeviationsOf.l0 : Nat → List Int → List Int → List (List Int) → List Int → Int → Int → Option ((List (List Int)) × Bool)
  | 0, _, _, _, _, _, _ => none
  | k + 1, x0, x6, x7, x18, x19, x20 => if x20 < x19 then (if 0 ≤ x20 then (if x20 < (x18.length : Int) then (if 0 ≤ (rd x18 x20) then (if (rd x18 x20) < (x6.length : Int) then ((some (x6.set ((rd x18 x20) : Int).toNat (wrap64 ((rd x6 (rd x18 x20)) + 1)) : List Int)).bind fun y207 => ((impl_deviations.f k x0 y207).bind fun t208 => (if x7.length < 5864062014805 then (impl_DeviationsOf.l0 k x0 y207 (x7 ++ [t208]) x18 x19 (wrap64 (x20 + 1))) else (none)))) else (none)) else (none)) else (none)) else (none)) else (some (x7, true))
def impl_DeviationsOf.f (k : Nat) (l0 : List Int) (l1 : List Int) : Option ((List (List Int)) × Bool) := (impl_IsSequence.f k l0 l1).bind fun t198 => (if t198 = true then (if 0 ≤ (l0.length : Int) then (if ((l0.length : Int) : Int).toNat ≤ 35184372088832 then (impl_DeviationsOf.l0 k l0 (List.replicate ((l0.length : Int) : Int).toNat 0) (([] : List (List Int))) l1 (l1.length : Int) 0) else (none)) else (none)) else (some (([] : List (List Int)), false)))
theorem impl_DeviationsOf.mono_l : ∀ k, (∀ y0 y1 y2 y3 y4 y5, LeO (impl_DeviationsOf.l0 k y0 y1 y2 y3 y4 y5) (impl_DeviationsOf.l0 (k + 1) y0 y1 y2 y3 y4 y5))
  | 0 => fun _ _ _ _ _ _ r h => by simp [impl_DeviationsOf.l0] at h
  | k + 1 => by
    have ih0 := impl_DeviationsOf.mono_l k
    · intro y0 y1 y2 y3 y4 y5
      unfold impl_DeviationsOf.l0
      repeat' first
      | (with_reducible exact ih0 _ _ _ _ _ _)
      | (with_reducible exact impl_IsSequence.mono _ _ _)
      | (with_reducible exact impl_deviations.mono _ _ _)
      | (with_reducible exact LeO.refl _)
      | (with_reducible exact LeO.none _)
      | (with_reducible refine LeO.ite ?_ ?_)
      | (with_reducible refine LeO.bind ?_ (fun _ => ?_))
      | exact ih0 _ _ _ _ _ _
      | exact impl_IsSequence.mono _ _ _
      | exact impl_deviations.mono _ _ _
      | exact LeO.none _
      | refine LeO.ite ?_ ?_
      | refine LeO.bind ?_ (fun _ => ?_)
theorem impl_DeviationsOf.mono : ∀ a0 a1 k, LeO (impl_DeviationsOf.f k a0 a1) (impl_DeviationsOf.f (k + 1) a0 a1) := by
  intro a0 a1 k
  have ih0 := impl_DeviationsOf.mono_l k
  unfold impl_DeviationsOf.f
  repeat' first
      | (with_reducible exact ih0 _ _ _ _ _ _)
      | (with_reducible exact impl_IsSequence.mono _ _ _)
      | (with_reducible exact impl_deviations.mono _ _ _)
      | (with_reducible exact LeO.refl _)
      | (with_reducible exact LeO.none _)
      | (with_reducible refine LeO.ite ?_ ?_)
      | (with_reducible refine LeO.bind ?_ (fun _ => ?_))
      | exact ih0 _ _ _ _ _ _
      | exact impl_IsSequence.mono _ _ _
      | exact impl_deviations.mono _ _ _
      | exact LeO.none _
      | refine LeO.ite ?_ ?_
      | refine LeO.bind ?_ (fun _ => ?_)
set_option maxHeartbeats 8000000 in
set_option maxRecDepth 100000 in
theorem impl_DeviationsOf.calls (k : Nat) (A0 : Option Addr) (c0 : Nat) (l0 : List Int) (A1 : Option Addr) (c1 : Nat) (l1 : List Int) (r1 : List (List Int)) (r2 : Bool) (w : World) (hr0 : Kd.C (Kd.int .i64) w A0 l0.length l0) (hc0 : l0.length ≤ c0) (hr1 : Kd.C (Kd.int .i64) w A1 l1.length l1) (hc1 : l1.length ≤ c1) (h : impl_DeviationsOf.f k l0 l1 = some (r1, r2)) :
    Calls Try.prog 19 #[.slice A0 l0.length c0, .slice A1 l1.length c1] w fun e w' => ∃ v0_ : Value, e = .returned (.tuple #[v0_, .bool r2]) ∧ Kd.S (Kd.slice 2 (Kd.int .i64)) 22 w' w.heap.size (fun _ => True) v0_ r1 ∧ Below w.heap.size w w' := by
  have HR0 := Aside0.mk hr0
  have HC0 := Aside0.mk hc0
  clear hr0 hc0
  have HR1 := Aside0.mk hr1
  have HC1 := Aside0.mk hc1
  clear hr1 hc1
  have HB := Aside0.mk (Below.refl w.heap.size w)
  have H : ((impl_IsSequence.f k l0 l1).bind fun t198 => (if t198 = true then (if 0 ≤ (l0.length : Int) then (if ((l0.length : Int) : Int).toNat ≤ 35184372088832 then (impl_DeviationsOf.l0 k l0 (List.replicate ((l0.length : Int) : Int).toNat 0) (([] : List (List Int))) l1 (l1.length : Int) 0) else (none)) else (none)) else (some (([] : List (List Int)), false)))) = some (r1, r2) := h
  clear h
  replace H := Option.bind_eq_some_iff.mp H
  obtain ⟨t198, A30, H⟩ := H
  replace H : (if t198 = true then (if 0 ≤ (l0.length : Int) then (if ((l0.length : Int) : Int).toNat ≤ 35184372088832 then (impl_DeviationsOf.l0 k l0 (List.replicate ((l0.length : Int) : Int).toNat 0) (([] : List (List Int))) l1 (l1.length : Int) 0) else (none)) else (none)) else (some (([] : List (List Int)), false))) = some (r1, r2) := H
  have A3 := Aside0.mk A30
  clear A30
  by_cases c4 : t198 = true
  · subst c4
    have H1 : (if 0 ≤ (l0.length : Int) then (if ((l0.length : Int) : Int).toNat ≤ 35184372088832 then (impl_DeviationsOf.l0 k l0 (List.replicate ((l0.length : Int) : Int).toNat 0) (([] : List (List Int))) l1 (l1.length : Int) 0) else (none)) else (none)) = some (r1, r2) := by rw [if_pos rfl] at H; exact H
    clear H
    have H := H1
    clear H1
    by_cases c5 : 0 ≤ (l0.length : Int)
    · rw [if_pos c5] at H
      have c5b0 := eq_true c5
      have c5b1 : decide (0 ≤ (l0.length : Int)) = true := decide_eq_true c5
      clear c5
      by_cases c6 : ((l0.length : Int) : Int).toNat ≤ 35184372088832
      · rw [if_pos c6] at H
        have c6b0 := eq_true c6
        have c6b1 : decide (((l0.length : Int) : Int).toNat ≤ 35184372088832) = true := decide_eq_true c6
        clear c6
        obtain ⟨y199, hy199⟩ : ∃ y_ : List Int, y_ = (List.replicate ((l0.length : Int) : Int).toNat 0) := ⟨_, rfl⟩
        replace H : (impl_DeviationsOf.l0 k l0 y199 (([] : List (List Int))) l1 (l1.length : Int) 0) = some (r1, r2) := by first | (rw [hy199]; with_reducible exact H) | (have H2_ := (Option.bind_some _ _).symm.trans H; rw [hy199]; with_reducible exact H2_) | (have H2_ := (Option.bind_some _ _).symm.trans H; with_reducible exact H2_) | with_reducible exact H | (rw [hy199]; exact H) | exact H
        have Ny199 := Aside0.mk hy199
        clear hy199
        obtain ⟨y202, hy202⟩ : ∃ y_ : List (List Int), y_ = (([] : List (List Int))) := ⟨_, rfl⟩
        replace H : (impl_DeviationsOf.l0 k l0 y199 y202 l1 (l1.length : Int) 0) = some (r1, r2) := by first | (rw [hy202]; with_reducible exact H) | (have H2_ := (Option.bind_some _ _).symm.trans H; rw [hy202]; with_reducible exact H2_) | (have H2_ := (Option.bind_some _ _).symm.trans H; with_reducible exact H2_) | with_reducible exact H | (rw [hy202]; exact H) | exact H
        have Ny202 := Aside0.mk hy202
        clear hy202
        have H' := Aside0.mk H
        clear H
        go_enter Try.func19, Try.ntmps19
        go_wp2_with (first | ((with_reducible refine gate_callee (f := 32) rfl ?_); refine goesL_ (some 12) rfl rfl Try.func32 (by kernel_rfl) rfl #[.slice A0 l0.length c0, .slice A1 l1.length c1] rfl (by (try simp only [List.map_toArray, List.map_cons, List.map_nil]); first | done | rfl | (simp only [List.length_drop, List.length_take]; rfl)) ?_; (with_reducible refine (impl_IsSequence.calls k _ _ l0 _ _ l1 true _ ?side1 ?side2 ?side3 ?side4 A3.out).mono ?_); (case side1 => repeat (first | exact HR0.out | (with_reducible refine Kd.C_alloc ?_ _) | (with_reducible refine Kd.C_drewN ?_ _) | (with_reducible refine Kd.C_drew ?_))); (case side2 => exact HC0.out); (case side3 => repeat (first | exact HR1.out | (with_reducible refine Kd.C_alloc ?_ _) | (with_reducible refine Kd.C_drewN ?_ _) | (with_reducible refine Kd.C_drew ?_))); (case side4 => exact HC1.out); rintro e w7 ⟨rfl, hb⟩; refine ⟨_, rfl, ?_⟩; have n0_ := Aside0.mk (below_step (by repeat (first | (with_reducible first | exact HB.out | apply below_alloc | apply pw_below_drewN | apply below_drew1) | exact HB.out)) hb); clear HB; have HB := n0_; clear n0_; (try clear hb); (try clear hb2); (try clear hk); (try clear hi)) | ((with_reducible refine gate_dst (N := 16) rfl ?_); refine Kd.R_make (Kd.int .i64) _ 2 rfl (N := 16) rfl 22 _ _ rfl (l0.length : Int) rfl rfl Try.underlying22 (.int .i64 0) 8 info2 rfl (by decide) (by omega) 0 (ok := fun _ => True) (okp := fun _ => True) rfl (fun _ hk => hk) trivial (of_decide_eq_true (by first | (with_reducible assumption) | assumption)) (Nat.le_trans (Nat.mul_le_mul_right _ (of_decide_eq_true (by first | (with_reducible assumption) | assumption) : (l0.length : Int).toNat ≤ 35184372088832)) (by omega)) (Below.refl _ _) (Nat.le_refl _) ?_; intro v200 w8 ho9 hb hg_ hnew_; clear hg_ hnew_; (first | rw [← Ny199.out] at ho9 | (simp only [Int.reduceToNat] at ho9; rw [← Ny199.out] at ho9)); have n0_ := Aside0.mk (Kd.R_lower ho9 (below_size (by repeat (first | (with_reducible first | exact HB.out | apply below_alloc | apply pw_below_drewN | apply below_drew1) | exact HB.out)))); have n1_ := Aside0.mk (below_step (by repeat (first | (with_reducible first | exact HB.out | apply below_alloc | apply pw_below_drewN | apply below_drew1) | exact HB.out)) hb); clear HB; have HO201 := n0_; have HB := n1_; clear n0_ n1_; clear hb ho9) | ((with_reducible refine gate_dst (N := 17) rfl ?_); refine Kd.S_lit (Kd.slice 2 (Kd.int .i64)) _ 22 ?hg (N := 17) ?hd (xs := ([] : List (List Int))) (inner := []) (ok := fun _ => True) (okp := fun _ => True) ?hr ?hp (fun _ hk => hk) trivial (Below.refl _ _) (Nat.le_refl _) (by simp) ?_; (case hd => rfl); (case hg => rfl); (case hr => first | (go_simp; done) | (go_simp; rfl)); (case hp => exact (Reps.none _ _)); intro v203 w10 ho11 hb hg_ hnew_; clear hg_ hnew_; (first | rw [← Ny202.out] at ho11 | (simp only [Int.reduceToNat] at ho11; rw [← Ny202.out] at ho11)); have n0_ := Aside0.mk (Kd.R_below (by (with_reducible repeat (first | apply Kd.R_alloc | apply Kd.R_drewN | apply Kd.R_drew)); exact HO201.out) hb); have n1_ := Aside0.mk (Kd.S_lower (Kd.S_new' ho11 (Kd.R_lt (by (with_reducible repeat (first | apply Kd.R_alloc | apply Kd.R_drewN | apply Kd.R_drew)); exact HO201.out))) (below_size (by repeat (first | (with_reducible first | exact HB.out | apply below_alloc | apply pw_below_drewN | apply below_drew1) | exact HB.out)))); have n2_ := Aside0.mk (below_step (by repeat (first | (with_reducible first | exact HB.out | apply below_alloc | apply pw_below_drewN | apply below_drew1) | exact HB.out)) hb); clear HO201; clear HB; have HO201 := n0_; have HO204 := n1_; have HB := n2_; clear n0_ n1_ n2_; clear hb ho11))
        go_loopg [7, 20] k (fun kq v7 v20 w' => ∃ (x6_1 : List Int) (x7_1 : List (List Int)) (x20_1 : Int), v20 = .int .i64 x20_1 ∧ Aside0 (impl_DeviationsOf.l0 kq l0 x6_1 x7_1 l1 (l1.length : Int) x20_1 = some (r1, r2)) ∧ Aside0 (kq ≤ k) ∧ Aside0 (Kd.R (Kd.int .i64) 2 w' w.heap.size (fun _ => True) v200 x6_1) ∧ Aside0 (Kd.S (Kd.slice 2 (Kd.int .i64)) 22 w' w.heap.size (fun k_ => some k_ ≠ (v200 : Value).ownBlock) v7 x7_1) ∧ Aside0 (Below w.heap.size w w'))
        case atStart => exact ⟨(y199), (y202), (0), (by first | rfl | (simp; done) | (simp [*]; done)), H', ⟨Nat.le_refl _⟩, ⟨by (with_reducible repeat (first | apply Kd.R_alloc | apply Kd.R_drewN | apply Kd.R_drew)); exact HO201.out⟩, ⟨by (with_reducible repeat (first | apply Kd.S_alloc | apply Kd.S_drewN | apply Kd.S_drew)); exact Kd.S_mono HO204.out (fun _ hk => hk.2)⟩, ⟨by repeat (first | (with_reducible first | exact HB.out | apply below_alloc | apply pw_below_drewN | apply below_drew1) | exact HB.out)⟩⟩
        case round =>
          clear H'
          try clear c1
          try clear p2
          try clear c3
          try clear c4
          try clear c5
          try clear c5b0
          try clear c5b1
          try clear c6
          try clear c6b0
          try clear c6b1
          obtain ⟨x6_1, x7_1, x20_1, rfl, HA, HK1, HO_6, HO_7, HB⟩ := hrel
          cases gk with
          | zero => exact absurd HA.out (by simp [impl_DeviationsOf.l0])
          | succ k1 =>
            have H := HA.out
            clear HA
            simp only [impl_DeviationsOf.l0] at H
            by_cases c12 : x20_1 < (l1.length : Int)
            · rw [if_pos c12] at H
              have c12b0 : decide (x20_1 < (l1.length : Int)) = true := decide_eq_true c12
              clear c12
              by_cases c13 : 0 ≤ x20_1
              · rw [if_pos c13] at H
                have c13b0 : decide (0 ≤ x20_1) = true := decide_eq_true c13
                clear c13
                by_cases c14 : x20_1 < (l1.length : Int)
                · rw [if_pos c14] at H
                  have c14b0 : decide (x20_1 < (l1.length : Int)) = true := decide_eq_true c14
                  clear c14
                  by_cases c15 : 0 ≤ (rd l1 x20_1)
                  · rw [if_pos c15] at H
                    have c15b0 : decide (0 ≤ (rd l1 x20_1)) = true := decide_eq_true c15
                    clear c15
                    by_cases c16 : (rd l1 x20_1) < (x6_1.length : Int)
                    · rw [if_pos c16] at H
                      have c16b0 : decide ((rd l1 x20_1) < (x6_1.length : Int)) = true := decide_eq_true c16
                      clear c16
                      obtain ⟨y207, hy207⟩ : ∃ y_ : List Int, y_ = (x6_1.set ((rd l1 x20_1) : Int).toNat (wrap64 ((rd x6_1 (rd l1 x20_1)) + 1))) := ⟨_, rfl⟩
                      replace H : ((impl_deviations.f k1 l0 y207).bind fun t208 => (if x7_1.length < 5864062014805 then (impl_DeviationsOf.l0 k1 l0 y207 (x7_1 ++ [t208]) l1 (l1.length : Int) (wrap64 (x20_1 + 1))) else (none))) = some (r1, r2) := by first | (rw [hy207]; with_reducible exact H) | (have H2_ := (Option.bind_some _ _).symm.trans H; rw [hy207]; with_reducible exact H2_) | (have H2_ := (Option.bind_some _ _).symm.trans H; with_reducible exact H2_) | with_reducible exact H | (rw [hy207]; exact H) | exact H
                      have Ny207 := Aside0.mk hy207
                      clear hy207
                      replace H := Option.bind_eq_some_iff.mp H
                      obtain ⟨t208, A180, H⟩ := H
                      replace H : (if x7_1.length < 5864062014805 then (impl_DeviationsOf.l0 k1 l0 y207 (x7_1 ++ [t208]) l1 (l1.length : Int) (wrap64 (x20_1 + 1))) else (none)) = some (r1, r2) := H
                      have A18 := Aside0.mk A180
                      clear A180
                      by_cases c19 : x7_1.length < 5864062014805
                      · rw [if_pos c19] at H
                        have LMc19 := Aside0.mk c19
                        clear c19
                        obtain ⟨y211, hy211⟩ : ∃ y_ : List (List Int), y_ = (x7_1 ++ [t208]) := ⟨_, rfl⟩
                        replace H : (impl_DeviationsOf.l0 k1 l0 y207 y211 l1 (l1.length : Int) (wrap64 (x20_1 + 1))) = some (r1, r2) := by first | (rw [hy211]; with_reducible exact H) | (have H2_ := (Option.bind_some _ _).symm.trans H; rw [hy211]; with_reducible exact H2_) | (have H2_ := (Option.bind_some _ _).symm.trans H; with_reducible exact H2_) | with_reducible exact H | (rw [hy211]; exact H) | exact H
                        have Ny211 := Aside0.mk hy211
                        clear hy211
                        have H' := Aside0.mk H
                        clear H
                        have p205 : 0 ≤ (x20_1 : Int) := of_decide_eq_true (by first | (with_reducible assumption) | assumption)
                        have q205 : x20_1 < (l1.length : Int) := of_decide_eq_true (by first | (with_reducible assumption) | assumption)
                        obtain ⟨ad205, e205, hx205_0⟩ := Kd.at_int HR1.out x20_1 p205 q205
                        cases e205
                        replace hx205_0 := (HB.out.cell (World.block_lt_of_cell? w _ hx205_0)).trans hx205_0
                        replace p205 := eq_true p205
                        replace q205 := eq_true q205
                        obtain ⟨Ao20, co20, eo20⟩ := Kd.R_slice HO_6.out
                        subst eo20
                        have p206 : 0 ≤ ((rd l1 x20_1) : Int) := of_decide_eq_true (by first | (with_reducible assumption) | assumption)
                        have q206 : (rd l1 x20_1) < (x6_1.length : Int) := of_decide_eq_true (by first | (with_reducible assumption) | assumption)
                        obtain ⟨ad206, e206, hx206_0⟩ := Kd.at_int (Kd.R_reads' HO_6.out).2.2 (rd l1 x20_1) p206 q206
                        cases e206
                        replace p206 := eq_true p206
                        replace q206 := eq_true q206
                        have p17 : 0 ≤ ((rd l1 x20_1) : Int) := of_decide_eq_true (by first | (with_reducible assumption) | assumption)
                        have q17 : ((rd l1 x20_1) : Int) < ((x6_1.length : Int) : Int) := of_decide_eq_true (by first | (with_reducible assumption) | assumption)
                        obtain ⟨go17, co17, eo17, gb17, gl17, cl17, HG17⟩ := Kd.R_form HO_6.out (by omega)
                        (first | cases eo17 | (injection eo17 with ea_ en_ ec_; (first | subst ea_ | (injection ea_ with ea_; subst ea_)); subst ec_; clear en_))
                        have GB17 := Aside0.mk gb17
                        have GG17 := Aside0.mk HG17
                        clear gb17 gl17 HG17
                        (first | simp only [add_plain] at hx206_0 | skip)
                        obtain ⟨hx17_0, hf17_0⟩ := Kd.R_celln 0 HO_6.out ((rd l1 x20_1) : Int) p17 q17
                        replace p17 := eq_true p17
                        replace q17 := eq_true q17
                        have HP21 := Kd.R_putg HO_6.out ((rd l1 x20_1) : Int) (wrap64 ((rd x6_1 (rd l1 x20_1)) + 1))
                        go_wp2_with (first | ((with_reducible refine gate_store (t := 2) (p := 29) rfl ?_); refine store_event (t := 2) (p := 29) (v := ?vo_w22) (w1 := (wr.setCell ⟨go17, ((rd l1 x20_1) : Int).toNat, none⟩ (.int .i64 (wrap64 ((rd x6_1 (rd l1 x20_1)) + 1))))) ?hg ?ho ?hn ?hr ?_; (case ho => rfl); (case hg => rfl); (case hn => rfl); (case hr => first | (go_simp; done) | (go_simp; rfl)); intro w22 hw; have hg : wr.grownBy w22 (some go17) := (by rw [hw]; exact HP21.2); have hp_ : Kd.R (Kd.int .i64) 2 w22 w.heap.size (fun _ => True) (.slice (some ⟨go17, 0, none⟩) x6_1.length co20) y207 := (by rw [hw, Ny207.out]; exact HP21.1); clear HP21; have n0_ := Aside0.mk (hp_); have n1_ := Aside0.mk (Kd.S_after (v := (.slice (some ⟨go17, 0, none⟩) x6_1.length co20)) (v1 := (.slice (some ⟨go17, 0, none⟩) x6_1.length co20)) (ok := (fun _ => True)) (by (with_reducible repeat (first | apply Kd.S_alloc | apply Kd.S_drewN | apply Kd.S_drew)); exact Kd.S_mono HO_7.out (fun _ hk => ⟨trivial, hk⟩)) hg (.inl rfl)); have n2_ := Aside0.mk ((by rw [hw]; exact below_set (HB.out) GB17.out : Below w.heap.size w w22)); clear HO_6; clear HO_7; clear HB; have HO_6 := n0_; have HO_7 := n1_; have HB := n2_; clear n0_ n1_ n2_; clear hg hw hp_) | ((with_reducible refine gate_callee (f := 44) rfl ?_); refine goesL_ (some 33) rfl rfl Try.func44 (by kernel_rfl) rfl #[.slice A0 l0.length c0, .slice (some ⟨go17, 0, none⟩) y207.length co20] rfl (by (try simp only [List.map_toArray, List.map_cons, List.map_nil]); first | done | (rw [show y207.length = x6_1.length from (Kd.R_reads' HO_6.out).1.symm] <;> rfl) | rfl | (simp only [List.length_drop, List.length_take]; rfl)) ?_; (with_reducible refine (impl_deviations.calls k1 _ _ l0 _ _ y207 t208 _ ?side1 ?side2 ?side3 ?side4 A18.out).mono ?_); (case side1 => repeat (first | exact (Kd.C_below HR0.out HB.out) | (with_reducible refine Kd.C_alloc ?_ _) | (with_reducible refine Kd.C_drewN ?_ _) | (with_reducible refine Kd.C_drew ?_))); (case side2 => exact HC0.out); (case side3 => repeat (first | exact (Kd.R_reads' HO_6.out).2.2 | (with_reducible refine Kd.C_alloc ?_ _) | (with_reducible refine Kd.C_drewN ?_ _) | (with_reducible refine Kd.C_drew ?_))); (case side4 => rw [show y207.length = x6_1.length from (Kd.R_reads' HO_6.out).1.symm]; exact (Kd.R_reads' HO_6.out).2.1); rintro e w23 ⟨v209, rfl, ho0, hb⟩; refine ⟨_, rfl, ?_⟩; have n0_ := Aside0.mk (Kd.R_elder' (by (with_reducible repeat (first | apply Kd.R_alloc | apply Kd.R_drewN | apply Kd.R_drew)); exact HO_6.out) (Kd.R_base ho0) hb); have n1_ := Aside0.mk (Kd.S_elder' (by (with_reducible repeat (first | apply Kd.S_alloc | apply Kd.S_drewN | apply Kd.S_drew)); exact HO_7.out) (Kd.R_base ho0) hb); have n2_ := Aside0.mk (Kd.R_lower (Kd.R_new' ho0 (Kd.R_lt (by (with_reducible repeat (first | apply Kd.R_alloc | apply Kd.R_drewN | apply Kd.R_drew)); exact HO_6.out))) (below_size (by repeat (first | (with_reducible first | exact HB.out | apply below_alloc | apply pw_below_drewN | apply below_drew1) | exact HB.out)))); have n3_ := Aside0.mk (below_step (by repeat (first | (with_reducible first | exact HB.out | apply below_alloc | apply pw_below_drewN | apply below_drew1) | exact HB.out)) hb); clear HO_6; clear HO_7; clear HB; have HO_6 := n0_; have HO_7 := n1_; have HO210 := n2_; have HB := n3_; clear n0_ n1_ n2_ n3_; (try clear hb); (try clear hb2); (try clear hk); (try clear hi); (try clear ho0); obtain ⟨Ao25, co25, eo25⟩ := Kd.R_slice HO210.out; subst eo25) | ((with_reducible refine gate_builtin (b := .append) (xs := #[.tmp 30, .tmp 34]) rfl ?_); at_builtin; refine Kd.S_append (Kd.slice 2 (Kd.int .i64)) (w0 := w) w.heap.size rfl (.tmp 30) (.tmp 34) 23 22 (.slice none 0 0) 24 rfl Try.underlying23 info22 rfl (by decide) (by omega) u7 x7_1 t208 [.slice Ao25 t208.length co25] (fun k_ => some k_ ≠ (.slice (some ⟨go17, 0, none⟩) x6_1.length co20 : Value).ownBlock) (fun k_ => some k_ = (.slice Ao25 t208.length co25 : Value).ownBlock) rfl rfl ?aP (fun k_ hk_ => ((Kd.R_mono (ok' := fun k_ => ((fun k_ => some k_ ≠ (.slice (some ⟨go17, 0, none⟩) x6_1.length co20 : Value).ownBlock)) k_ ∧ some k_ ≠ (u7 : Value).ownBlock) (Kd.R_apart' (HO210.out) (Kd.S_typed HO_7.out) (by decide)) (fun k_ hk => ⟨hk.1.2, hk.2⟩))).1 k_ hk_.symm) ?aF ?aO ?aB ?aS ?aL ?_; (case aP => exact Kd.M_row (Kd.R_mono (Kd.R_tight rfl (Kd.R_mono (ok' := fun k_ => ((fun k_ => some k_ ≠ (.slice (some ⟨go17, 0, none⟩) x6_1.length co20 : Value).ownBlock)) k_ ∧ some k_ ≠ (u7 : Value).ownBlock) (Kd.R_apart' (HO210.out) (Kd.S_typed HO_7.out) (by decide)) (fun k_ hk => ⟨hk.1.2, hk.2⟩))) (fun _ h_ => h_))); (case aB => exact (by repeat (first | (with_reducible first | exact HB.out | apply below_alloc | apply pw_below_drewN | apply below_drew1) | exact HB.out))); (case aF => exact (fun k_ hk => Kd.fresh' (Kd.R_lt (by (with_reducible repeat (first | apply Kd.R_alloc | apply Kd.R_drewN | apply Kd.R_drew)); exact HO_6.out)) k_ hk)); (case aO => exact (by (with_reducible repeat (first | apply Kd.S_alloc | apply Kd.S_drewN | apply Kd.S_drew)); exact Kd.S_mono HO_7.out (fun k_ hk => ⟨hk.1.2, fun e_ => hk.2 e_⟩))); (case aS => exact (below_size (by repeat (first | (with_reducible first | exact HB.out | apply below_alloc | apply pw_below_drewN | apply below_drew1) | exact HB.out)))); (case aL => have := LMc19.out; omega); intro v212 w24 ho hb hg hat; rw [← Ny211.out] at ho; have n0_ := Aside0.mk (Kd.R_over' (by (with_reducible repeat (first | apply Kd.R_alloc | apply Kd.R_drewN | apply Kd.R_drew)); exact HO_6.out) (Kd.S_typed (by (with_reducible repeat (first | apply Kd.S_alloc | apply Kd.S_drewN | apply Kd.S_drew)); exact HO_7.out)) (by decide) hg); have n1_ := Aside0.mk (hb); have n2_ := Aside0.mk (ho); clear HO_6; clear HB; clear HO_7; clear HO210; have HO_6 := n0_; have HB := n1_; have HO213 := n2_; clear n0_ n1_ n2_; clear ho hb hg hat))
                        go_roundg k1
                        case measure => have := HK1.out; omega
                        case rel => exact ⟨(y207), (y211), (wrap64 (x20_1 + 1)), (by first | rfl | (simp; done) | (simp [*]; done)), H', ⟨by have := HK1.out; omega⟩, ⟨by (with_reducible repeat (first | apply Kd.R_alloc | apply Kd.R_drewN | apply Kd.R_drew)); exact Kd.R_mono HO_6.out (fun _ hk => trivial)⟩, ⟨by (with_reducible repeat (first | apply Kd.S_alloc | apply Kd.S_drewN | apply Kd.S_drew)); exact HO213.out⟩, ⟨by repeat (first | (with_reducible first | exact HB.out | apply below_alloc | apply pw_below_drewN | apply below_drew1) | exact HB.out)⟩⟩
                      · rw [if_neg c19] at H
                        exact absurd H (by simp)
                    · rw [if_neg c16] at H
                      exact absurd H (by simp)
                  · rw [if_neg c15] at H
                    exact absurd H (by simp)
                · rw [if_neg c14] at H
                  exact absurd H (by simp)
              · rw [if_neg c13] at H
                exact absurd H (by simp)
            · rw [if_neg c12] at H
              have c12b0 : decide (x20_1 < (l1.length : Int)) = false := decide_eq_false c12
              clear c12
              simp only [Option.some.injEq, Prod.mk.injEq] at H
              obtain ⟨rfl, rfl⟩ := H
              go_wp2
              go_ret2
              exact ⟨_, by first | rfl | (simp [errW_none, errW_some] <;> rfl) | (simp [*, errW_none, errW_some] <;> rfl), by (with_reducible repeat (first | apply Kd.S_alloc | apply Kd.S_drewN | apply Kd.S_drew)); exact Kd.S_mono HO_7.out (fun _ hk => trivial), by repeat (first | (with_reducible first | exact HB.out | apply below_alloc | apply pw_below_drewN | apply below_drew1) | exact HB.out)⟩
      · rw [if_neg c6] at H
        exact absurd H (by simp)
    · rw [if_neg c5] at H
      exact absurd H (by simp)
  · replace c4 := Bool.eq_false_iff.mpr c4
    subst c4
    have H1 : (some (([] : List (List Int)), false)) = some (r1, r2) := by rw [if_neg (show ¬ (false = true) by decide)] at H; exact H
    clear H
    have H := H1
    clear H1
    simp only [Option.some.injEq, Prod.mk.injEq] at H
    obtain ⟨rfl, rfl⟩ := H
    go_enter Try.func19, Try.ntmps19
    go_wp2_with (first | ((with_reducible refine gate_callee (f := 32) rfl ?_); refine goesL_ (some 12) rfl rfl Try.func32 (by kernel_rfl) rfl #[.slice A0 l0.length c0, .slice A1 l1.length c1] rfl (by (try simp only [List.map_toArray, List.map_cons, List.map_nil]); first | done | rfl | (simp only [List.length_drop, List.length_take]; rfl)) ?_; (with_reducible refine (impl_IsSequence.calls k _ _ l0 _ _ l1 false _ ?side1 ?side2 ?side3 ?side4 A3.out).mono ?_); (case side1 => repeat (first | exact HR0.out | (with_reducible refine Kd.C_alloc ?_ _) | (with_reducible refine Kd.C_drewN ?_ _) | (with_reducible refine Kd.C_drew ?_))); (case side2 => exact HC0.out); (case side3 => repeat (first | exact HR1.out | (with_reducible refine Kd.C_alloc ?_ _) | (with_reducible refine Kd.C_drewN ?_ _) | (with_reducible refine Kd.C_drew ?_))); (case side4 => exact HC1.out); rintro e w26 ⟨rfl, hb⟩; refine ⟨_, rfl, ?_⟩; have n0_ := Aside0.mk (below_step (by repeat (first | (with_reducible first | exact HB.out | apply below_alloc | apply pw_below_drewN | apply below_drew1) | exact HB.out)) hb); clear HB; have HB := n0_; clear n0_; (try clear hb); (try clear hb2); (try clear hk); (try clear hi)))
    go_ret2
    exact ⟨_, by first | rfl | (simp [errW_none, errW_some] <;> rfl) | (simp [*, errW_none, errW_some] <;> rfl), by first | exact Kd.S_nil _ _ _ _ _ | exact Kd.N_nil _ _ _ _ _ | exact Kd.V_nil _ _ _ _ _ | exact Kd.Q_nil _ _ _ _ _ | exact Kd.R_nil _ _ _ _ _, by repeat (first | (with_reducible first | exact HB.out | apply below_alloc | apply pw_below_drewN | apply below_drew1) | exact HB.out)⟩

/-! ### laws_FnExactDeviationsOf: function 4 -/
def laws_FnExactDeviationsOf.f (k : Nat) (l0 : List Int) (l1 : List Int) : Option (Bool) := if (l0.length : Int) > 1048576 then (some true) else (if (l1.length : Int) > 1048576 then (some true) else ((laws_toInt64S.f k l0).bind fun t101 => ((laws_toInt64S.f k l1).bind fun t102 => ((spec_DeviationsOf.f k t101 t102).bind fun bt103 => ((laws_toInt64S.f k l0).bind fun t105 => ((laws_toInt64S.f k l1).bind fun t106 => ((impl_DeviationsOf.f k t105 t106).bind fun bt107 => ((laws_eqInt64SS.f k bt107.1 bt103.1).bind fun t109 => (if t109 = true then (if bt107.2 = bt103.2 then ((laws_toInt64S.f k l0).bind fun t110 => ((laws_eqInt64S.f k t105 t110).bind fun t111 => (if t111 = true then ((laws_toInt64S.f k l1).bind fun t112 => ((laws_eqInt64S.f k t106 t112).bind fun t113 => (if t113 = true then ((laws_markInt64S.f k t105 1).bind fun bt114 => ((laws_markInt64S.f k t106 bt114.1).bind fun bt116 => (if bt116.1 < 0 then (none) else ((laws_eqInt64SS.f k bt107.1 bt103.1).bind fun t118 => (if t118 = true then ((laws_markInt64SS.f k bt107.1 1).bind fun bt119 => ((laws_heldInt64SS.f k bt119.2 1).bind fun t121 => (if t121 < 0 then (none) else (if t121 = bt119.1 then ((laws_toInt64S.f k l0).bind fun t122 => ((laws_toInt64S.f k l1).bind fun t123 => ((impl_DeviationsOf.f k t122 t123).bind fun bt124 => ((laws_eqInt64SS.f k bt124.1 bt103.1).bind fun t126 => (if t126 = true then (if bt124.2 = bt103.2 then ((laws_heldInt64SS.f k bt119.2 1).bind fun t127 => (if t127 < 0 then (none) else (if t127 = bt119.1 then (some true) else (none)))) else (none)) else (none)))))) else (none))))) else (none)))))) else (none)))) else (none)))) else (none)) else (none))))))))))
theorem laws_FnExactDeviationsOf.R_iv {α : Type} {d : Kd α} {e : Nat} {W W1 : World} {b : Nat} {ok : Nat → Prop} {v : Value} {xs : List α} (hE : d.E = []) (h : d.R e W1 W.heap.size ok v xs) (hb : b ≤ W.heap.size) : d.R e W1 b (fun k_ => ok k_ ∧ some k_ = v.ownBlock ∧ W.heap.size ≤ k_ ∧ k_ < W1.heap.size) v xs := by
  have h1 := Kd.R_bound h
  have h2 := Kd.R_tight hE h
  exact Kd.R_lower (Kd.R_reok hE h2 (fun k_ e_ => ⟨h.1 k_ e_, e_.symm, (h1.1 k_ e_).2.1, (h1.1 k_ e_).2.2.1⟩)) hb
theorem laws_FnExactDeviationsOf.S_iv {α : Type} {d : Kd α} {e : Nat} {W W1 : World} {b : Nat} {ok : Nat → Prop} {v : Value} {xs : List α} (h : Kd.S d e W1 W.heap.size ok v xs) (hb : b ≤ W.heap.size) : Kd.S d e W1 b (fun k_ => ok k_ ∧ W.heap.size ≤ k_ ∧ k_ < W1.heap.size) v xs :=
  Kd.S_lower (Kd.S_mono (Kd.S_bound h) (fun k_ hk_ => ⟨hk_.1, hk_.2.1, hk_.2.2.1⟩)) hb
set_option maxHeartbeats 16000000 in
set_option maxRecDepth 100000 in
theorem laws_FnExactDeviationsOf.calls (k : Nat) (A0 : Option Addr) (c0 : Nat) (l0 : List Int) (A1 : Option Addr) (c1 : Nat) (l1 : List Int) (r : Bool) (w : World) (hr0 : Kd.C (Kd.int .i64) w A0 l0.length l0) (hc0 : l0.length ≤ c0) (hr1 : Kd.C (Kd.int .i64) w A1 l1.length l1) (hc1 : l1.length ≤ c1) (h : laws_FnExactDeviationsOf.f k l0 l1 = some r) :
    Calls Try.prog 4 #[.slice A0 l0.length c0, .slice A1 l1.length c1] w fun e w' => e = .returned (.bool r) ∧ Below w.heap.size w w' := by
  have HR0 := Aside0.mk hr0
  have HC0 := Aside0.mk hc0
  clear hr0 hc0
  have HR1 := Aside0.mk hr1
  have HC1 := Aside0.mk hc1
  clear hr1 hc1
  have HB := Aside0.mk (Below.refl w.heap.size w)
  have H : (if (l0.length : Int) > 1048576 then (some true) else (if (l1.length : Int) > 1048576 then (some true) else ((laws_toInt64S.f k l0).bind fun t101 => ((laws_toInt64S.f k l1).bind fun t102 => ((spec_DeviationsOf.f k t101 t102).bind fun bt103 => ((laws_toInt64S.f k l0).bind fun t105 => ((laws_toInt64S.f k l1).bind fun t106 => ((impl_DeviationsOf.f k t105 t106).bind fun bt107 => ((laws_eqInt64SS.f k bt107.1 bt103.1).bind fun t109 => (if t109 = true then (if bt107.2 = bt103.2 then ((laws_toInt64S.f k l0).bind fun t110 => ((laws_eqInt64S.f k t105 t110).bind fun t111 => (if t111 = true then ((laws_toInt64S.f k l1).bind fun t112 => ((laws_eqInt64S.f k t106 t112).bind fun t113 => (if t113 = true then ((laws_markInt64S.f k t105 1).bind fun bt114 => ((laws_markInt64S.f k t106 bt114.1).bind fun bt116 => (if bt116.1 < 0 then (none) else ((laws_eqInt64SS.f k bt107.1 bt103.1).bind fun t118 => (if t118 = true then ((laws_markInt64SS.f k bt107.1 1).bind fun bt119 => ((laws_heldInt64SS.f k bt119.2 1).bind fun t121 => (if t121 < 0 then (none) else (if t121 = bt119.1 then ((laws_toInt64S.f k l0).bind fun t122 => ((laws_toInt64S.f k l1).bind fun t123 => ((impl_DeviationsOf.f k t122 t123).bind fun bt124 => ((laws_eqInt64SS.f k bt124.1 bt103.1).bind fun t126 => (if t126 = true then (if bt124.2 = bt103.2 then ((laws_heldInt64SS.f k bt119.2 1).bind fun t127 => (if t127 < 0 then (none) else (if t127 = bt119.1 then (some true) else (none)))) else (none)) else (none)))))) else (none))))) else (none)))))) else (none)))) else (none)))) else (none)) else (none))))))))))) = some r := h
  clear h
  by_cases c0_ : (l0.length : Int) > 1048576
  · rw [if_pos c0_] at H
    have c0_b0 : decide (1048576 < (l0.length : Int)) = true := decide_eq_true c0_
    have c0_b1 : decide (1048576 < l0.length) = true := decide_eq_true (by omega)
    obtain rfl := Option.some.inj H
    go_enter Try.func4, Try.ntmps4
    go_wp2
    go_ret
    exact ⟨by first | rfl | (simp [errW_none, errW_some] <;> rfl) | (simp [*, errW_none, errW_some] <;> rfl), by repeat (first | (with_reducible first | exact HB.out | apply below_alloc | apply pw_below_drewN | apply below_drew1) | exact HB.out)⟩
  · rw [if_neg c0_] at H
    have c0_b0 : decide (1048576 < (l0.length : Int)) = false := decide_eq_false c0_
    have c0_b1 : decide (1048576 < l0.length) = false := decide_eq_false (by omega)
    by_cases c1_ : (l1.length : Int) > 1048576
    · rw [if_pos c1_] at H
      have c1_b0 : decide (1048576 < (l1.length : Int)) = true := decide_eq_true c1_
      have c1_b1 : decide (1048576 < l1.length) = true := decide_eq_true (by omega)
      obtain rfl := Option.some.inj H
      go_enter Try.func4, Try.ntmps4
      go_wp2
      go_ret
      exact ⟨by first | rfl | (simp [errW_none, errW_some] <;> rfl) | (simp [*, errW_none, errW_some] <;> rfl), by repeat (first | (with_reducible first | exact HB.out | apply below_alloc | apply pw_below_drewN | apply below_drew1) | exact HB.out)⟩
    · rw [if_neg c1_] at H
      have c1_b0 : decide (1048576 < (l1.length : Int)) = false := decide_eq_false c1_
      have c1_b1 : decide (1048576 < l1.length) = false := decide_eq_false (by omega)
      replace H := Option.bind_eq_some_iff.mp H
      obtain ⟨t101, B2_, H⟩ := H
      replace H : ((laws_toInt64S.f k l1).bind fun t102 => ((spec_DeviationsOf.f k t101 t102).bind fun bt103 => ((laws_toInt64S.f k l0).bind fun t105 => ((laws_toInt64S.f k l1).bind fun t106 => ((impl_DeviationsOf.f k t105 t106).bind fun bt107 => ((laws_eqInt64SS.f k bt107.1 bt103.1).bind fun t109 => (if t109 = true then (if bt107.2 = bt103.2 then ((laws_toInt64S.f k l0).bind fun t110 => ((laws_eqInt64S.f k t105 t110).bind fun t111 => (if t111 = true then ((laws_toInt64S.f k l1).bind fun t112 => ((laws_eqInt64S.f k t106 t112).bind fun t113 => (if t113 = true then ((laws_markInt64S.f k t105 1).bind fun bt114 => ((laws_markInt64S.f k t106 bt114.1).bind fun bt116 => (if bt116.1 < 0 then (none) else ((laws_eqInt64SS.f k bt107.1 bt103.1).bind fun t118 => (if t118 = true then ((laws_markInt64SS.f k bt107.1 1).bind fun bt119 => ((laws_heldInt64SS.f k bt119.2 1).bind fun t121 => (if t121 < 0 then (none) else (if t121 = bt119.1 then ((laws_toInt64S.f k l0).bind fun t122 => ((laws_toInt64S.f k l1).bind fun t123 => ((impl_DeviationsOf.f k t122 t123).bind fun bt124 => ((laws_eqInt64SS.f k bt124.1 bt103.1).bind fun t126 => (if t126 = true then (if bt124.2 = bt103.2 then ((laws_heldInt64SS.f k bt119.2 1).bind fun t127 => (if t127 < 0 then (none) else (if t127 = bt119.1 then (some true) else (none)))) else (none)) else (none)))))) else (none))))) else (none)))))) else (none)))) else (none)))) else (none)) else (none)))))))) = some r := H
      have X2_ := Aside0.mk B2_
      clear B2_
      replace H := Option.bind_eq_some_iff.mp H
      obtain ⟨t102, B3_, H⟩ := H
      replace H : ((spec_DeviationsOf.f k t101 t102).bind fun bt103 => ((laws_toInt64S.f k l0).bind fun t105 => ((laws_toInt64S.f k l1).bind fun t106 => ((impl_DeviationsOf.f k t105 t106).bind fun bt107 => ((laws_eqInt64SS.f k bt107.1 bt103.1).bind fun t109 => (if t109 = true then (if bt107.2 = bt103.2 then ((laws_toInt64S.f k l0).bind fun t110 => ((laws_eqInt64S.f k t105 t110).bind fun t111 => (if t111 = true then ((laws_toInt64S.f k l1).bind fun t112 => ((laws_eqInt64S.f k t106 t112).bind fun t113 => (if t113 = true then ((laws_markInt64S.f k t105 1).bind fun bt114 => ((laws_markInt64S.f k t106 bt114.1).bind fun bt116 => (if bt116.1 < 0 then (none) else ((laws_eqInt64SS.f k bt107.1 bt103.1).bind fun t118 => (if t118 = true then ((laws_markInt64SS.f k bt107.1 1).bind fun bt119 => ((laws_heldInt64SS.f k bt119.2 1).bind fun t121 => (if t121 < 0 then (none) else (if t121 = bt119.1 then ((laws_toInt64S.f k l0).bind fun t122 => ((laws_toInt64S.f k l1).bind fun t123 => ((impl_DeviationsOf.f k t122 t123).bind fun bt124 => ((laws_eqInt64SS.f k bt124.1 bt103.1).bind fun t126 => (if t126 = true then (if bt124.2 = bt103.2 then ((laws_heldInt64SS.f k bt119.2 1).bind fun t127 => (if t127 < 0 then (none) else (if t127 = bt119.1 then (some true) else (none)))) else (none)) else (none)))))) else (none))))) else (none)))))) else (none)))) else (none)))) else (none)) else (none))))))) = some r := H
      have X3_ := Aside0.mk B3_
      clear B3_
      replace H := Option.bind_eq_some_iff.mp H
      obtain ⟨⟨t103, t104⟩, B4_, H⟩ := H
      replace H : ((laws_toInt64S.f k l0).bind fun t105 => ((laws_toInt64S.f k l1).bind fun t106 => ((impl_DeviationsOf.f k t105 t106).bind fun bt107 => ((laws_eqInt64SS.f k bt107.1 t103).bind fun t109 => (if t109 = true then (if bt107.2 = t104 then ((laws_toInt64S.f k l0).bind fun t110 => ((laws_eqInt64S.f k t105 t110).bind fun t111 => (if t111 = true then ((laws_toInt64S.f k l1).bind fun t112 => ((laws_eqInt64S.f k t106 t112).bind fun t113 => (if t113 = true then ((laws_markInt64S.f k t105 1).bind fun bt114 => ((laws_markInt64S.f k t106 bt114.1).bind fun bt116 => (if bt116.1 < 0 then (none) else ((laws_eqInt64SS.f k bt107.1 t103).bind fun t118 => (if t118 = true then ((laws_markInt64SS.f k bt107.1 1).bind fun bt119 => ((laws_heldInt64SS.f k bt119.2 1).bind fun t121 => (if t121 < 0 then (none) else (if t121 = bt119.1 then ((laws_toInt64S.f k l0).bind fun t122 => ((laws_toInt64S.f k l1).bind fun t123 => ((impl_DeviationsOf.f k t122 t123).bind fun bt124 => ((laws_eqInt64SS.f k bt124.1 t103).bind fun t126 => (if t126 = true then (if bt124.2 = t104 then ((laws_heldInt64SS.f k bt119.2 1).bind fun t127 => (if t127 < 0 then (none) else (if t127 = bt119.1 then (some true) else (none)))) else (none)) else (none)))))) else (none))))) else (none)))))) else (none)))) else (none)))) else (none)) else (none)))))) = some r := H
      have X4_ := Aside0.mk B4_
      clear B4_
      replace H := Option.bind_eq_some_iff.mp H
      obtain ⟨t105, B5_, H⟩ := H
      replace H : ((laws_toInt64S.f k l1).bind fun t106 => ((impl_DeviationsOf.f k t105 t106).bind fun bt107 => ((laws_eqInt64SS.f k bt107.1 t103).bind fun t109 => (if t109 = true then (if bt107.2 = t104 then ((laws_toInt64S.f k l0).bind fun t110 => ((laws_eqInt64S.f k t105 t110).bind fun t111 => (if t111 = true then ((laws_toInt64S.f k l1).bind fun t112 => ((laws_eqInt64S.f k t106 t112).bind fun t113 => (if t113 = true then ((laws_markInt64S.f k t105 1).bind fun bt114 => ((laws_markInt64S.f k t106 bt114.1).bind fun bt116 => (if bt116.1 < 0 then (none) else ((laws_eqInt64SS.f k bt107.1 t103).bind fun t118 => (if t118 = true then ((laws_markInt64SS.f k bt107.1 1).bind fun bt119 => ((laws_heldInt64SS.f k bt119.2 1).bind fun t121 => (if t121 < 0 then (none) else (if t121 = bt119.1 then ((laws_toInt64S.f k l0).bind fun t122 => ((laws_toInt64S.f k l1).bind fun t123 => ((impl_DeviationsOf.f k t122 t123).bind fun bt124 => ((laws_eqInt64SS.f k bt124.1 t103).bind fun t126 => (if t126 = true then (if bt124.2 = t104 then ((laws_heldInt64SS.f k bt119.2 1).bind fun t127 => (if t127 < 0 then (none) else (if t127 = bt119.1 then (some true) else (none)))) else (none)) else (none)))))) else (none))))) else (none)))))) else (none)))) else (none)))) else (none)) else (none))))) = some r := H
      have X5_ := Aside0.mk B5_
      clear B5_
      replace H := Option.bind_eq_some_iff.mp H
      obtain ⟨t106, B6_, H⟩ := H
      replace H : ((impl_DeviationsOf.f k t105 t106).bind fun bt107 => ((laws_eqInt64SS.f k bt107.1 t103).bind fun t109 => (if t109 = true then (if bt107.2 = t104 then ((laws_toInt64S.f k l0).bind fun t110 => ((laws_eqInt64S.f k t105 t110).bind fun t111 => (if t111 = true then ((laws_toInt64S.f k l1).bind fun t112 => ((laws_eqInt64S.f k t106 t112).bind fun t113 => (if t113 = true then ((laws_markInt64S.f k t105 1).bind fun bt114 => ((laws_markInt64S.f k t106 bt114.1).bind fun bt116 => (if bt116.1 < 0 then (none) else ((laws_eqInt64SS.f k bt107.1 t103).bind fun t118 => (if t118 = true then ((laws_markInt64SS.f k bt107.1 1).bind fun bt119 => ((laws_heldInt64SS.f k bt119.2 1).bind fun t121 => (if t121 < 0 then (none) else (if t121 = bt119.1 then ((laws_toInt64S.f k l0).bind fun t122 => ((laws_toInt64S.f k l1).bind fun t123 => ((impl_DeviationsOf.f k t122 t123).bind fun bt124 => ((laws_eqInt64SS.f k bt124.1 t103).bind fun t126 => (if t126 = true then (if bt124.2 = t104 then ((laws_heldInt64SS.f k bt119.2 1).bind fun t127 => (if t127 < 0 then (none) else (if t127 = bt119.1 then (some true) else (none)))) else (none)) else (none)))))) else (none))))) else (none)))))) else (none)))) else (none)))) else (none)) else (none)))) = some r := H
      have X6_ := Aside0.mk B6_
      clear B6_
      replace H := Option.bind_eq_some_iff.mp H
      obtain ⟨⟨t107, t108⟩, B7_, H⟩ := H
      replace H : ((laws_eqInt64SS.f k t107 t103).bind fun t109 => (if t109 = true then (if t108 = t104 then ((laws_toInt64S.f k l0).bind fun t110 => ((laws_eqInt64S.f k t105 t110).bind fun t111 => (if t111 = true then ((laws_toInt64S.f k l1).bind fun t112 => ((laws_eqInt64S.f k t106 t112).bind fun t113 => (if t113 = true then ((laws_markInt64S.f k t105 1).bind fun bt114 => ((laws_markInt64S.f k t106 bt114.1).bind fun bt116 => (if bt116.1 < 0 then (none) else ((laws_eqInt64SS.f k t107 t103).bind fun t118 => (if t118 = true then ((laws_markInt64SS.f k t107 1).bind fun bt119 => ((laws_heldInt64SS.f k bt119.2 1).bind fun t121 => (if t121 < 0 then (none) else (if t121 = bt119.1 then ((laws_toInt64S.f k l0).bind fun t122 => ((laws_toInt64S.f k l1).bind fun t123 => ((impl_DeviationsOf.f k t122 t123).bind fun bt124 => ((laws_eqInt64SS.f k bt124.1 t103).bind fun t126 => (if t126 = true then (if bt124.2 = t104 then ((laws_heldInt64SS.f k bt119.2 1).bind fun t127 => (if t127 < 0 then (none) else (if t127 = bt119.1 then (some true) else (none)))) else (none)) else (none)))))) else (none))))) else (none)))))) else (none)))) else (none)))) else (none)) else (none))) = some r := H
      have X7_ := Aside0.mk B7_
      clear B7_
      replace H := Option.bind_eq_some_iff.mp H
      obtain ⟨t109, B8_, H⟩ := H
      replace H : (if t109 = true then (if t108 = t104 then ((laws_toInt64S.f k l0).bind fun t110 => ((laws_eqInt64S.f k t105 t110).bind fun t111 => (if t111 = true then ((laws_toInt64S.f k l1).bind fun t112 => ((laws_eqInt64S.f k t106 t112).bind fun t113 => (if t113 = true then ((laws_markInt64S.f k t105 1).bind fun bt114 => ((laws_markInt64S.f k t106 bt114.1).bind fun bt116 => (if bt116.1 < 0 then (none) else ((laws_eqInt64SS.f k t107 t103).bind fun t118 => (if t118 = true then ((laws_markInt64SS.f k t107 1).bind fun bt119 => ((laws_heldInt64SS.f k bt119.2 1).bind fun t121 => (if t121 < 0 then (none) else (if t121 = bt119.1 then ((laws_toInt64S.f k l0).bind fun t122 => ((laws_toInt64S.f k l1).bind fun t123 => ((impl_DeviationsOf.f k t122 t123).bind fun bt124 => ((laws_eqInt64SS.f k bt124.1 t103).bind fun t126 => (if t126 = true then (if bt124.2 = t104 then ((laws_heldInt64SS.f k bt119.2 1).bind fun t127 => (if t127 < 0 then (none) else (if t127 = bt119.1 then (some true) else (none)))) else (none)) else (none)))))) else (none))))) else (none)))))) else (none)))) else (none)))) else (none)) else (none)) = some r := H
      have X8_ := Aside0.mk B8_
      clear B8_
      have c9_ : t109 = true := by
        by_cases c_ : t109 = true
        · exact c_
        · rw [if_neg c_] at H; exact absurd H (by simp)
      rw [if_pos c9_] at H
      subst c9_
      have c10_ : t108 = t104 := by
        by_cases c_ : t108 = t104
        · exact c_
        · rw [if_neg c_] at H; exact absurd H (by simp)
      rw [if_pos c10_] at H
      have c10_b0 : (t108 == t104) = true := beq_iff_eq.mpr c10_
      have c10_b1 : (t108 != t104) = false := bne_eq_false_iff_eq.mpr c10_
      replace H := Option.bind_eq_some_iff.mp H
      obtain ⟨t110, B11_, H⟩ := H
      replace H : ((laws_eqInt64S.f k t105 t110).bind fun t111 => (if t111 = true then ((laws_toInt64S.f k l1).bind fun t112 => ((laws_eqInt64S.f k t106 t112).bind fun t113 => (if t113 = true then ((laws_markInt64S.f k t105 1).bind fun bt114 => ((laws_markInt64S.f k t106 bt114.1).bind fun bt116 => (if bt116.1 < 0 then (none) else ((laws_eqInt64SS.f k t107 t103).bind fun t118 => (if t118 = true then ((laws_markInt64SS.f k t107 1).bind fun bt119 => ((laws_heldInt64SS.f k bt119.2 1).bind fun t121 => (if t121 < 0 then (none) else (if t121 = bt119.1 then ((laws_toInt64S.f k l0).bind fun t122 => ((laws_toInt64S.f k l1).bind fun t123 => ((impl_DeviationsOf.f k t122 t123).bind fun bt124 => ((laws_eqInt64SS.f k bt124.1 t103).bind fun t126 => (if t126 = true then (if bt124.2 = t104 then ((laws_heldInt64SS.f k bt119.2 1).bind fun t127 => (if t127 < 0 then (none) else (if t127 = bt119.1 then (some true) else (none)))) else (none)) else (none)))))) else (none))))) else (none)))))) else (none)))) else (none))) = some r := H
      have X11_ := Aside0.mk B11_
      clear B11_
      replace H := Option.bind_eq_some_iff.mp H
      obtain ⟨t111, B12_, H⟩ := H
      replace H : (if t111 = true then ((laws_toInt64S.f k l1).bind fun t112 => ((laws_eqInt64S.f k t106 t112).bind fun t113 => (if t113 = true then ((laws_markInt64S.f k t105 1).bind fun bt114 => ((laws_markInt64S.f k t106 bt114.1).bind fun bt116 => (if bt116.1 < 0 then (none) else ((laws_eqInt64SS.f k t107 t103).bind fun t118 => (if t118 = true then ((laws_markInt64SS.f k t107 1).bind fun bt119 => ((laws_heldInt64SS.f k bt119.2 1).bind fun t121 => (if t121 < 0 then (none) else (if t121 = bt119.1 then ((laws_toInt64S.f k l0).bind fun t122 => ((laws_toInt64S.f k l1).bind fun t123 => ((impl_DeviationsOf.f k t122 t123).bind fun bt124 => ((laws_eqInt64SS.f k bt124.1 t103).bind fun t126 => (if t126 = true then (if bt124.2 = t104 then ((laws_heldInt64SS.f k bt119.2 1).bind fun t127 => (if t127 < 0 then (none) else (if t127 = bt119.1 then (some true) else (none)))) else (none)) else (none)))))) else (none))))) else (none)))))) else (none)))) else (none)) = some r := H
      have X12_ := Aside0.mk B12_
      clear B12_
      have c13_ : t111 = true := by
        by_cases c_ : t111 = true
        · exact c_
        · rw [if_neg c_] at H; exact absurd H (by simp)
      rw [if_pos c13_] at H
      subst c13_
      replace H := Option.bind_eq_some_iff.mp H
      obtain ⟨t112, B14_, H⟩ := H
      replace H : ((laws_eqInt64S.f k t106 t112).bind fun t113 => (if t113 = true then ((laws_markInt64S.f k t105 1).bind fun bt114 => ((laws_markInt64S.f k t106 bt114.1).bind fun bt116 => (if bt116.1 < 0 then (none) else ((laws_eqInt64SS.f k t107 t103).bind fun t118 => (if t118 = true then ((laws_markInt64SS.f k t107 1).bind fun bt119 => ((laws_heldInt64SS.f k bt119.2 1).bind fun t121 => (if t121 < 0 then (none) else (if t121 = bt119.1 then ((laws_toInt64S.f k l0).bind fun t122 => ((laws_toInt64S.f k l1).bind fun t123 => ((impl_DeviationsOf.f k t122 t123).bind fun bt124 => ((laws_eqInt64SS.f k bt124.1 t103).bind fun t126 => (if t126 = true then (if bt124.2 = t104 then ((laws_heldInt64SS.f k bt119.2 1).bind fun t127 => (if t127 < 0 then (none) else (if t127 = bt119.1 then (some true) else (none)))) else (none)) else (none)))))) else (none))))) else (none)))))) else (none))) = some r := H
      have X14_ := Aside0.mk B14_
      clear B14_
      replace H := Option.bind_eq_some_iff.mp H
      obtain ⟨t113, B15_, H⟩ := H
      replace H : (if t113 = true then ((laws_markInt64S.f k t105 1).bind fun bt114 => ((laws_markInt64S.f k t106 bt114.1).bind fun bt116 => (if bt116.1 < 0 then (none) else ((laws_eqInt64SS.f k t107 t103).bind fun t118 => (if t118 = true then ((laws_markInt64SS.f k t107 1).bind fun bt119 => ((laws_heldInt64SS.f k bt119.2 1).bind fun t121 => (if t121 < 0 then (none) else (if t121 = bt119.1 then ((laws_toInt64S.f k l0).bind fun t122 => ((laws_toInt64S.f k l1).bind fun t123 => ((impl_DeviationsOf.f k t122 t123).bind fun bt124 => ((laws_eqInt64SS.f k bt124.1 t103).bind fun t126 => (if t126 = true then (if bt124.2 = t104 then ((laws_heldInt64SS.f k bt119.2 1).bind fun t127 => (if t127 < 0 then (none) else (if t127 = bt119.1 then (some true) else (none)))) else (none)) else (none)))))) else (none))))) else (none)))))) else (none)) = some r := H
      have X15_ := Aside0.mk B15_
      clear B15_
      have c16_ : t113 = true := by
        by_cases c_ : t113 = true
        · exact c_
        · rw [if_neg c_] at H; exact absurd H (by simp)
      rw [if_pos c16_] at H
      subst c16_
      replace H := Option.bind_eq_some_iff.mp H
      obtain ⟨⟨t114, t115⟩, B17_, H⟩ := H
      replace H : ((laws_markInt64S.f k t106 t114).bind fun bt116 => (if bt116.1 < 0 then (none) else ((laws_eqInt64SS.f k t107 t103).bind fun t118 => (if t118 = true then ((laws_markInt64SS.f k t107 1).bind fun bt119 => ((laws_heldInt64SS.f k bt119.2 1).bind fun t121 => (if t121 < 0 then (none) else (if t121 = bt119.1 then ((laws_toInt64S.f k l0).bind fun t122 => ((laws_toInt64S.f k l1).bind fun t123 => ((impl_DeviationsOf.f k t122 t123).bind fun bt124 => ((laws_eqInt64SS.f k bt124.1 t103).bind fun t126 => (if t126 = true then (if bt124.2 = t104 then ((laws_heldInt64SS.f k bt119.2 1).bind fun t127 => (if t127 < 0 then (none) else (if t127 = bt119.1 then (some true) else (none)))) else (none)) else (none)))))) else (none))))) else (none))))) = some r := H
      have X17_ := Aside0.mk B17_
      clear B17_
      replace H := Option.bind_eq_some_iff.mp H
      obtain ⟨⟨t116, t117⟩, B18_, H⟩ := H
      replace H : (if t116 < 0 then (none) else ((laws_eqInt64SS.f k t107 t103).bind fun t118 => (if t118 = true then ((laws_markInt64SS.f k t107 1).bind fun bt119 => ((laws_heldInt64SS.f k bt119.2 1).bind fun t121 => (if t121 < 0 then (none) else (if t121 = bt119.1 then ((laws_toInt64S.f k l0).bind fun t122 => ((laws_toInt64S.f k l1).bind fun t123 => ((impl_DeviationsOf.f k t122 t123).bind fun bt124 => ((laws_eqInt64SS.f k bt124.1 t103).bind fun t126 => (if t126 = true then (if bt124.2 = t104 then ((laws_heldInt64SS.f k bt119.2 1).bind fun t127 => (if t127 < 0 then (none) else (if t127 = bt119.1 then (some true) else (none)))) else (none)) else (none)))))) else (none))))) else (none)))) = some r := H
      have X18_ := Aside0.mk B18_
      clear B18_
      have c19_ : ¬ (t116 < 0) := by
        by_cases c_ : t116 < 0
        · rw [if_pos c_] at H; exact absurd H (by simp)
        · exact c_
      rw [if_neg c19_] at H
      have c19_b0 : decide (t116 < 0) = false := decide_eq_false c19_
      replace H := Option.bind_eq_some_iff.mp H
      obtain ⟨t118, B20_, H⟩ := H
      replace H : (if t118 = true then ((laws_markInt64SS.f k t107 1).bind fun bt119 => ((laws_heldInt64SS.f k bt119.2 1).bind fun t121 => (if t121 < 0 then (none) else (if t121 = bt119.1 then ((laws_toInt64S.f k l0).bind fun t122 => ((laws_toInt64S.f k l1).bind fun t123 => ((impl_DeviationsOf.f k t122 t123).bind fun bt124 => ((laws_eqInt64SS.f k bt124.1 t103).bind fun t126 => (if t126 = true then (if bt124.2 = t104 then ((laws_heldInt64SS.f k bt119.2 1).bind fun t127 => (if t127 < 0 then (none) else (if t127 = bt119.1 then (some true) else (none)))) else (none)) else (none)))))) else (none))))) else (none)) = some r := H
      have X20_ := Aside0.mk B20_
      clear B20_
      have c21_ : t118 = true := by
        by_cases c_ : t118 = true
        · exact c_
        · rw [if_neg c_] at H; exact absurd H (by simp)
      rw [if_pos c21_] at H
      subst c21_
      replace H := Option.bind_eq_some_iff.mp H
      obtain ⟨⟨t119, t120⟩, B22_, H⟩ := H
      replace H : ((laws_heldInt64SS.f k t120 1).bind fun t121 => (if t121 < 0 then (none) else (if t121 = t119 then ((laws_toInt64S.f k l0).bind fun t122 => ((laws_toInt64S.f k l1).bind fun t123 => ((impl_DeviationsOf.f k t122 t123).bind fun bt124 => ((laws_eqInt64SS.f k bt124.1 t103).bind fun t126 => (if t126 = true then (if bt124.2 = t104 then ((laws_heldInt64SS.f k t120 1).bind fun t127 => (if t127 < 0 then (none) else (if t127 = t119 then (some true) else (none)))) else (none)) else (none)))))) else (none)))) = some r := H
      have X22_ := Aside0.mk B22_
      clear B22_
      replace H := Option.bind_eq_some_iff.mp H
      obtain ⟨t121, B23_, H⟩ := H
      replace H : (if t121 < 0 then (none) else (if t121 = t119 then ((laws_toInt64S.f k l0).bind fun t122 => ((laws_toInt64S.f k l1).bind fun t123 => ((impl_DeviationsOf.f k t122 t123).bind fun bt124 => ((laws_eqInt64SS.f k bt124.1 t103).bind fun t126 => (if t126 = true then (if bt124.2 = t104 then ((laws_heldInt64SS.f k t120 1).bind fun t127 => (if t127 < 0 then (none) else (if t127 = t119 then (some true) else (none)))) else (none)) else (none)))))) else (none))) = some r := H
      have X23_ := Aside0.mk B23_
      clear B23_
      have c24_ : ¬ (t121 < 0) := by
        by_cases c_ : t121 < 0
        · rw [if_pos c_] at H; exact absurd H (by simp)
        · exact c_
      rw [if_neg c24_] at H
      have c24_b0 : decide (t121 < 0) = false := decide_eq_false c24_
      have c25_ : t121 = t119 := by
        by_cases c_ : t121 = t119
        · exact c_
        · rw [if_neg c_] at H; exact absurd H (by simp)
      rw [if_pos c25_] at H
      have c25_b0 : (t121 == t119) = true := beq_iff_eq.mpr c25_
      have c25_b1 : (t121 != t119) = false := bne_eq_false_iff_eq.mpr c25_
      replace H := Option.bind_eq_some_iff.mp H
      obtain ⟨t122, B26_, H⟩ := H
      replace H : ((laws_toInt64S.f k l1).bind fun t123 => ((impl_DeviationsOf.f k t122 t123).bind fun bt124 => ((laws_eqInt64SS.f k bt124.1 t103).bind fun t126 => (if t126 = true then (if bt124.2 = t104 then ((laws_heldInt64SS.f k t120 1).bind fun t127 => (if t127 < 0 then (none) else (if t127 = t119 then (some true) else (none)))) else (none)) else (none))))) = some r := H
      have X26_ := Aside0.mk B26_
      clear B26_
      replace H := Option.bind_eq_some_iff.mp H
      obtain ⟨t123, B27_, H⟩ := H
      replace H : ((impl_DeviationsOf.f k t122 t123).bind fun bt124 => ((laws_eqInt64SS.f k bt124.1 t103).bind fun t126 => (if t126 = true then (if bt124.2 = t104 then ((laws_heldInt64SS.f k t120 1).bind fun t127 => (if t127 < 0 then (none) else (if t127 = t119 then (some true) else (none)))) else (none)) else (none)))) = some r := H
      have X27_ := Aside0.mk B27_
      clear B27_
      replace H := Option.bind_eq_some_iff.mp H
      obtain ⟨⟨t124, t125⟩, B28_, H⟩ := H
      replace H : ((laws_eqInt64SS.f k t124 t103).bind fun t126 => (if t126 = true then (if t125 = t104 then ((laws_heldInt64SS.f k t120 1).bind fun t127 => (if t127 < 0 then (none) else (if t127 = t119 then (some true) else (none)))) else (none)) else (none))) = some r := H
      have X28_ := Aside0.mk B28_
      clear B28_
      replace H := Option.bind_eq_some_iff.mp H
      obtain ⟨t126, B29_, H⟩ := H
      replace H : (if t126 = true then (if t125 = t104 then ((laws_heldInt64SS.f k t120 1).bind fun t127 => (if t127 < 0 then (none) else (if t127 = t119 then (some true) else (none)))) else (none)) else (none)) = some r := H
      have X29_ := Aside0.mk B29_
      clear B29_
      have c30_ : t126 = true := by
        by_cases c_ : t126 = true
        · exact c_
        · rw [if_neg c_] at H; exact absurd H (by simp)
      rw [if_pos c30_] at H
      subst c30_
      have c31_ : t125 = t104 := by
        by_cases c_ : t125 = t104
        · exact c_
        · rw [if_neg c_] at H; exact absurd H (by simp)
      rw [if_pos c31_] at H
      have c31_b0 : (t125 == t104) = true := beq_iff_eq.mpr c31_
      have c31_b1 : (t125 != t104) = false := bne_eq_false_iff_eq.mpr c31_
      replace H := Option.bind_eq_some_iff.mp H
      obtain ⟨t127, B32_, H⟩ := H
      replace H : (if t127 < 0 then (none) else (if t127 = t119 then (some true) else (none))) = some r := H
      have X32_ := Aside0.mk B32_
      clear B32_
      have c33_ : ¬ (t127 < 0) := by
        by_cases c_ : t127 < 0
        · rw [if_pos c_] at H; exact absurd H (by simp)
        · exact c_
      rw [if_neg c33_] at H
      have c33_b0 : decide (t127 < 0) = false := decide_eq_false c33_
      have c34_ : t127 = t119 := by
        by_cases c_ : t127 = t119
        · exact c_
        · rw [if_neg c_] at H; exact absurd H (by simp)
      rw [if_pos c34_] at H
      have c34_b0 : (t127 == t119) = true := beq_iff_eq.mpr c34_
      have c34_b1 : (t127 != t119) = false := bne_eq_false_iff_eq.mpr c34_
      obtain rfl := Option.some.inj H
      go_enter Try.func4, Try.ntmps4
      go_wp2_with (first | ((with_reducible refine gate_callee (f := 11) rfl ?_); refine goesL_ (some 24) rfl rfl Try.func11 (by kernel_rfl) rfl #[.slice A0 l0.length c0] rfl (by (try simp only [List.map_toArray, List.map_cons, List.map_nil]); first | done | rfl) ?_; (with_reducible refine (laws_toInt64S.calls k _ _ l0 t101 _ ?side1 ?side2 X2_.out).mono ?_); (case side1 => repeat (first | exact (Kd.C_below HR0.out (by repeat (first | (with_reducible first | exact HB.out | apply below_alloc | apply pw_below_drewN | apply below_drew1) | exact HB.out))) | (with_reducible refine Kd.C_alloc ?_ _) | (with_reducible refine Kd.C_drewN ?_ _) | (with_reducible refine Kd.C_drew ?_))); (case side2 => exact HC0.out); rintro e w2_ ⟨v101, rfl, ho0, hb⟩; refine ⟨_, rfl, ?_⟩; have HZ2 := Aside0.mk (show w.heap.size ≤ w2_.heap.size from hb.size); obtain ⟨Av101, cv101, ez_⟩ := Kd.R_slice ho0; subst ez_; have n0_ := Aside0.mk ((show Kd.R (Kd.int .i64) 2 w2_ w.heap.size (fun k_ => True ∧ some k_ = (.slice Av101 t101.length cv101 : Value).ownBlock ∧ w.heap.size ≤ k_ ∧ k_ < w2_.heap.size) (.slice Av101 t101.length cv101) t101 from laws_FnExactDeviationsOf.R_iv rfl ho0 (below_size (by repeat (first | (with_reducible first | exact HB.out | apply below_alloc | apply pw_below_drewN | apply below_drew1) | exact HB.out))))); have nb_ := Aside0.mk (below_step (by repeat (first | (with_reducible first | exact HB.out | apply below_alloc | apply pw_below_drewN | apply below_drew1) | exact HB.out)) hb); clear HB; have HO101 := n0_; have HB := nb_; clear n0_ nb_; (try clear hb); (try clear hkp); (try clear hd); (try clear ho0)) | ((with_reducible refine gate_callee (f := 11) rfl ?_); refine goesL_ (some 26) rfl rfl Try.func11 (by kernel_rfl) rfl #[.slice A1 l1.length c1] rfl (by (try simp only [List.map_toArray, List.map_cons, List.map_nil]); first | done | rfl) ?_; (with_reducible refine (laws_toInt64S.calls k _ _ l1 t102 _ ?side1 ?side2 X3_.out).mono ?_); (case side1 => repeat (first | exact (Kd.C_below HR1.out (by repeat (first | (with_reducible first | exact HB.out | apply below_alloc | apply pw_below_drewN | apply below_drew1) | exact HB.out))) | (with_reducible refine Kd.C_alloc ?_ _) | (with_reducible refine Kd.C_drewN ?_ _) | (with_reducible refine Kd.C_drew ?_))); (case side2 => exact HC1.out); rintro e w3_ ⟨v102, rfl, ho0, hb⟩; refine ⟨_, rfl, ?_⟩; have HZ3 := Aside0.mk (show w2_.heap.size ≤ w3_.heap.size from hb.size); obtain ⟨Av102, cv102, ez_⟩ := Kd.R_slice ho0; subst ez_; have n0_ := Aside0.mk (Kd.R_below (by (with_reducible repeat (first | apply Kd.R_alloc | apply Kd.R_drewN | apply Kd.R_drew)); exact HO101.out) hb); have n1_ := Aside0.mk ((show Kd.R (Kd.int .i64) 2 w3_ w.heap.size (fun k_ => True ∧ some k_ = (.slice Av102 t102.length cv102 : Value).ownBlock ∧ w2_.heap.size ≤ k_ ∧ k_ < w3_.heap.size) (.slice Av102 t102.length cv102) t102 from laws_FnExactDeviationsOf.R_iv rfl ho0 (below_size (by repeat (first | (with_reducible first | exact HB.out | apply below_alloc | apply pw_below_drewN | apply below_drew1) | exact HB.out))))); have nb_ := Aside0.mk (below_step (by repeat (first | (with_reducible first | exact HB.out | apply below_alloc | apply pw_below_drewN | apply below_drew1) | exact HB.out)) hb); clear HO101; clear HB; have HO101 := n0_; have HO102 := n1_; have HB := nb_; clear n0_ n1_ nb_; (try clear hb); (try clear hkp); (try clear hd); (try clear ho0)) | ((with_reducible refine gate_callee (f := 18) rfl ?_); refine goesL_ (some 27) rfl rfl Try.func18 (by kernel_rfl) rfl #[.slice Av101 t101.length cv101, .slice Av102 t102.length cv102] rfl (by (try simp only [List.map_toArray, List.map_cons, List.map_nil]); first | done | rfl) ?_; (with_reducible refine (spec_DeviationsOf.calls k _ _ t101 _ _ t102 t103 t104 _ ?side1 ?side2 ?side3 ?side4 X4_.out).mono ?_); (case side1 => repeat (first | exact (Kd.R_reads' HO101.out).2.2 | (with_reducible refine Kd.C_alloc ?_ _) | (with_reducible refine Kd.C_drewN ?_ _) | (with_reducible refine Kd.C_drew ?_))); (case side2 => exact (Kd.R_reads' HO101.out).2.1); (case side3 => repeat (first | exact (Kd.R_reads' HO102.out).2.2 | (with_reducible refine Kd.C_alloc ?_ _) | (with_reducible refine Kd.C_drewN ?_ _) | (with_reducible refine Kd.C_drew ?_))); (case side4 => exact (Kd.R_reads' HO102.out).2.1); rintro e w4_ ⟨v103, rfl, ho0, hb⟩; refine ⟨_, rfl, ?_⟩; have HZ4 := Aside0.mk (show w3_.heap.size ≤ w4_.heap.size from hb.size); obtain ⟨Av103, cv103, ez_⟩ := Kd.S_slice ho0; subst ez_; have n0_ := Aside0.mk (Kd.R_below (by (with_reducible repeat (first | apply Kd.R_alloc | apply Kd.R_drewN | apply Kd.R_drew)); exact HO101.out) hb); have n1_ := Aside0.mk (Kd.R_below (by (with_reducible repeat (first | apply Kd.R_alloc | apply Kd.R_drewN | apply Kd.R_drew)); exact HO102.out) hb); have n2_ := Aside0.mk ((show Kd.S (Kd.slice 2 (Kd.int .i64)) 22 w4_ w.heap.size (fun k_ => True ∧ w3_.heap.size ≤ k_ ∧ k_ < w4_.heap.size) (.slice Av103 t103.length cv103) t103 from laws_FnExactDeviationsOf.S_iv ho0 (below_size (by repeat (first | (with_reducible first | exact HB.out | apply below_alloc | apply pw_below_drewN | apply below_drew1) | exact HB.out))))); have nb_ := Aside0.mk (below_step (by repeat (first | (with_reducible first | exact HB.out | apply below_alloc | apply pw_below_drewN | apply below_drew1) | exact HB.out)) hb); clear HO101; clear HO102; clear HB; have HO101 := n0_; have HO102 := n1_; have HO103 := n2_; have HB := nb_; clear n0_ n1_ n2_ nb_; (try clear hb); (try clear hkp); (try clear hd); (try clear ho0); (try clear HO101); (try clear HO102)) | ((with_reducible refine gate_callee (f := 11) rfl ?_); refine goesL_ (some 31) rfl rfl Try.func11 (by kernel_rfl) rfl #[.slice A0 l0.length c0] rfl (by (try simp only [List.map_toArray, List.map_cons, List.map_nil]); first | done | rfl) ?_; (with_reducible refine (laws_toInt64S.calls k _ _ l0 t105 _ ?side1 ?side2 X5_.out).mono ?_); (case side1 => repeat (first | exact (Kd.C_below HR0.out (by repeat (first | (with_reducible first | exact HB.out | apply below_alloc | apply pw_below_drewN | apply below_drew1) | exact HB.out))) | (with_reducible refine Kd.C_alloc ?_ _) | (with_reducible refine Kd.C_drewN ?_ _) | (with_reducible refine Kd.C_drew ?_))); (case side2 => exact HC0.out); rintro e w5_ ⟨v105, rfl, ho0, hb⟩; refine ⟨_, rfl, ?_⟩; have HZ5 := Aside0.mk (show w4_.heap.size ≤ w5_.heap.size from hb.size); obtain ⟨Av105, cv105, ez_⟩ := Kd.R_slice ho0; subst ez_; have n0_ := Aside0.mk (Kd.S_below (by (with_reducible repeat (first | apply Kd.S_alloc | apply Kd.S_drewN | apply Kd.S_drew)); exact HO103.out) hb); have n1_ := Aside0.mk ((show Kd.R (Kd.int .i64) 2 w5_ w.heap.size (fun k_ => True ∧ some k_ = (.slice Av105 t105.length cv105 : Value).ownBlock ∧ w4_.heap.size ≤ k_ ∧ k_ < w5_.heap.size) (.slice Av105 t105.length cv105) t105 from laws_FnExactDeviationsOf.R_iv rfl ho0 (below_size (by repeat (first | (with_reducible first | exact HB.out | apply below_alloc | apply pw_below_drewN | apply below_drew1) | exact HB.out))))); have nb_ := Aside0.mk (below_step (by repeat (first | (with_reducible first | exact HB.out | apply below_alloc | apply pw_below_drewN | apply below_drew1) | exact HB.out)) hb); clear HO103; clear HB; have HO103 := n0_; have HO105 := n1_; have HB := nb_; clear n0_ n1_ nb_; (try clear hb); (try clear hkp); (try clear hd); (try clear ho0)) | ((with_reducible refine gate_callee (f := 11) rfl ?_); refine goesL_ (some 33) rfl rfl Try.func11 (by kernel_rfl) rfl #[.slice A1 l1.length c1] rfl (by (try simp only [List.map_toArray, List.map_cons, List.map_nil]); first | done | rfl) ?_; (with_reducible refine (laws_toInt64S.calls k _ _ l1 t106 _ ?side1 ?side2 X6_.out).mono ?_); (case side1 => repeat (first | exact (Kd.C_below HR1.out (by repeat (first | (with_reducible first | exact HB.out | apply below_alloc | apply pw_below_drewN | apply below_drew1) | exact HB.out))) | (with_reducible refine Kd.C_alloc ?_ _) | (with_reducible refine Kd.C_drewN ?_ _) | (with_reducible refine Kd.C_drew ?_))); (case side2 => exact HC1.out); rintro e w6_ ⟨v106, rfl, ho0, hb⟩; refine ⟨_, rfl, ?_⟩; have HZ6 := Aside0.mk (show w5_.heap.size ≤ w6_.heap.size from hb.size); obtain ⟨Av106, cv106, ez_⟩ := Kd.R_slice ho0; subst ez_; have n0_ := Aside0.mk (Kd.S_below (by (with_reducible repeat (first | apply Kd.S_alloc | apply Kd.S_drewN | apply Kd.S_drew)); exact HO103.out) hb); have n1_ := Aside0.mk (Kd.R_below (by (with_reducible repeat (first | apply Kd.R_alloc | apply Kd.R_drewN | apply Kd.R_drew)); exact HO105.out) hb); have n2_ := Aside0.mk ((show Kd.R (Kd.int .i64) 2 w6_ w.heap.size (fun k_ => True ∧ some k_ = (.slice Av106 t106.length cv106 : Value).ownBlock ∧ w5_.heap.size ≤ k_ ∧ k_ < w6_.heap.size) (.slice Av106 t106.length cv106) t106 from laws_FnExactDeviationsOf.R_iv rfl ho0 (below_size (by repeat (first | (with_reducible first | exact HB.out | apply below_alloc | apply pw_below_drewN | apply below_drew1) | exact HB.out))))); have nb_ := Aside0.mk (below_step (by repeat (first | (with_reducible first | exact HB.out | apply below_alloc | apply pw_below_drewN | apply below_drew1) | exact HB.out)) hb); clear HO103; clear HO105; clear HB; have HO103 := n0_; have HO105 := n1_; have HO106 := n2_; have HB := nb_; clear n0_ n1_ n2_ nb_; (try clear hb); (try clear hkp); (try clear hd); (try clear ho0)) | ((with_reducible refine gate_callee (f := 19) rfl ?_); refine goesL_ (some 37) rfl rfl Try.func19 (by kernel_rfl) rfl #[.slice Av105 t105.length cv105, .slice Av106 t106.length cv106] rfl (by (try simp only [List.map_toArray, List.map_cons, List.map_nil]); first | done | rfl) ?_; (with_reducible refine (impl_DeviationsOf.calls k _ _ t105 _ _ t106 t107 t108 _ ?side1 ?side2 ?side3 ?side4 X7_.out).mono ?_); (case side1 => repeat (first | exact (Kd.R_reads' HO105.out).2.2 | (with_reducible refine Kd.C_alloc ?_ _) | (with_reducible refine Kd.C_drewN ?_ _) | (with_reducible refine Kd.C_drew ?_))); (case side2 => exact (Kd.R_reads' HO105.out).2.1); (case side3 => repeat (first | exact (Kd.R_reads' HO106.out).2.2 | (with_reducible refine Kd.C_alloc ?_ _) | (with_reducible refine Kd.C_drewN ?_ _) | (with_reducible refine Kd.C_drew ?_))); (case side4 => exact (Kd.R_reads' HO106.out).2.1); rintro e w7_ ⟨v107, rfl, ho0, hb⟩; refine ⟨_, rfl, ?_⟩; have HZ7 := Aside0.mk (show w6_.heap.size ≤ w7_.heap.size from hb.size); obtain ⟨Av107, cv107, ez_⟩ := Kd.S_slice ho0; subst ez_; have n0_ := Aside0.mk (Kd.S_below (by (with_reducible repeat (first | apply Kd.S_alloc | apply Kd.S_drewN | apply Kd.S_drew)); exact HO103.out) hb); have n1_ := Aside0.mk (Kd.R_below (by (with_reducible repeat (first | apply Kd.R_alloc | apply Kd.R_drewN | apply Kd.R_drew)); exact HO105.out) hb); have n2_ := Aside0.mk (Kd.R_below (by (with_reducible repeat (first | apply Kd.R_alloc | apply Kd.R_drewN | apply Kd.R_drew)); exact HO106.out) hb); have n3_ := Aside0.mk ((show Kd.S (Kd.slice 2 (Kd.int .i64)) 22 w7_ w.heap.size (fun k_ => True ∧ w6_.heap.size ≤ k_ ∧ k_ < w7_.heap.size) (.slice Av107 t107.length cv107) t107 from laws_FnExactDeviationsOf.S_iv ho0 (below_size (by repeat (first | (with_reducible first | exact HB.out | apply below_alloc | apply pw_below_drewN | apply below_drew1) | exact HB.out))))); have nb_ := Aside0.mk (below_step (by repeat (first | (with_reducible first | exact HB.out | apply below_alloc | apply pw_below_drewN | apply below_drew1) | exact HB.out)) hb); clear HO103; clear HO105; clear HO106; clear HB; have HO103 := n0_; have HO105 := n1_; have HO106 := n2_; have HO107 := n3_; have HB := nb_; clear n0_ n1_ n2_ n3_ nb_; (try clear hb); (try clear hkp); (try clear hd); (try clear ho0)) | ((with_reducible refine gate_callee (f := 13) rfl ?_); refine goesL_ (some 42) rfl rfl Try.func13 (by kernel_rfl) rfl #[.slice Av107 t107.length cv107, .slice Av103 t103.length cv103] rfl (by (try simp only [List.map_toArray, List.map_cons, List.map_nil]); first | done | rfl) ?_; (with_reducible refine (laws_eqInt64SS.calls k _ _ t107 _ _ t103 true _ ?side1 ?side2 ?side3 ?side4 X8_.out).mono ?_); (case side1 => repeat (first | exact (Kd.S_reads' HO107.out).2.2 | (with_reducible refine Kd.C_alloc ?_ _) | (with_reducible refine Kd.C_drewN ?_ _) | (with_reducible refine Kd.C_drew ?_))); (case side2 => exact (Kd.S_reads' HO107.out).2.1); (case side3 => repeat (first | exact (Kd.S_reads' HO103.out).2.2 | (with_reducible refine Kd.C_alloc ?_ _) | (with_reducible refine Kd.C_drewN ?_ _) | (with_reducible refine Kd.C_drew ?_))); (case side4 => exact (Kd.S_reads' HO103.out).2.1); rintro e w8_ ⟨rfl, hb⟩; refine ⟨_, rfl, ?_⟩; have HZ8 := Aside0.mk (show w7_.heap.size ≤ w8_.heap.size from hb.size); have n0_ := Aside0.mk (Kd.S_below (by (with_reducible repeat (first | apply Kd.S_alloc | apply Kd.S_drewN | apply Kd.S_drew)); exact HO103.out) hb); have n1_ := Aside0.mk (Kd.R_below (by (with_reducible repeat (first | apply Kd.R_alloc | apply Kd.R_drewN | apply Kd.R_drew)); exact HO105.out) hb); have n2_ := Aside0.mk (Kd.R_below (by (with_reducible repeat (first | apply Kd.R_alloc | apply Kd.R_drewN | apply Kd.R_drew)); exact HO106.out) hb); have n3_ := Aside0.mk (Kd.S_below (by (with_reducible repeat (first | apply Kd.S_alloc | apply Kd.S_drewN | apply Kd.S_drew)); exact HO107.out) hb); have nb_ := Aside0.mk (below_step (by repeat (first | (with_reducible first | exact HB.out | apply below_alloc | apply pw_below_drewN | apply below_drew1) | exact HB.out)) hb); clear HO103; clear HO105; clear HO106; clear HO107; clear HB; have HO103 := n0_; have HO105 := n1_; have HO106 := n2_; have HO107 := n3_; have HB := nb_; clear n0_ n1_ n2_ n3_ nb_; (try clear hb); (try clear hkp); (try clear hd)) | ((with_reducible refine gate_callee (f := 11) rfl ?_); refine goesL_ (some 51) rfl rfl Try.func11 (by kernel_rfl) rfl #[.slice A0 l0.length c0] rfl (by (try simp only [List.map_toArray, List.map_cons, List.map_nil]); first | done | rfl) ?_; (with_reducible refine (laws_toInt64S.calls k _ _ l0 t110 _ ?side1 ?side2 X11_.out).mono ?_); (case side1 => repeat (first | exact (Kd.C_below HR0.out (by repeat (first | (with_reducible first | exact HB.out | apply below_alloc | apply pw_below_drewN | apply below_drew1) | exact HB.out))) | (with_reducible refine Kd.C_alloc ?_ _) | (with_reducible refine Kd.C_drewN ?_ _) | (with_reducible refine Kd.C_drew ?_))); (case side2 => exact HC0.out); rintro e w11_ ⟨v110, rfl, ho0, hb⟩; refine ⟨_, rfl, ?_⟩; have HZ11 := Aside0.mk (show w8_.heap.size ≤ w11_.heap.size from hb.size); obtain ⟨Av110, cv110, ez_⟩ := Kd.R_slice ho0; subst ez_; have n0_ := Aside0.mk (Kd.S_below (by (with_reducible repeat (first | apply Kd.S_alloc | apply Kd.S_drewN | apply Kd.S_drew)); exact HO103.out) hb); have n1_ := Aside0.mk (Kd.R_below (by (with_reducible repeat (first | apply Kd.R_alloc | apply Kd.R_drewN | apply Kd.R_drew)); exact HO105.out) hb); have n2_ := Aside0.mk (Kd.R_below (by (with_reducible repeat (first | apply Kd.R_alloc | apply Kd.R_drewN | apply Kd.R_drew)); exact HO106.out) hb); have n3_ := Aside0.mk (Kd.S_below (by (with_reducible repeat (first | apply Kd.S_alloc | apply Kd.S_drewN | apply Kd.S_drew)); exact HO107.out) hb); have n4_ := Aside0.mk ((show Kd.R (Kd.int .i64) 2 w11_ w.heap.size (fun k_ => True ∧ some k_ = (.slice Av110 t110.length cv110 : Value).ownBlock ∧ w8_.heap.size ≤ k_ ∧ k_ < w11_.heap.size) (.slice Av110 t110.length cv110) t110 from laws_FnExactDeviationsOf.R_iv rfl ho0 (below_size (by repeat (first | (with_reducible first | exact HB.out | apply below_alloc | apply pw_below_drewN | apply below_drew1) | exact HB.out))))); have nb_ := Aside0.mk (below_step (by repeat (first | (with_reducible first | exact HB.out | apply below_alloc | apply pw_below_drewN | apply below_drew1) | exact HB.out)) hb); clear HO103; clear HO105; clear HO106; clear HO107; clear HB; have HO103 := n0_; have HO105 := n1_; have HO106 := n2_; have HO107 := n3_; have HO110 := n4_; have HB := nb_; clear n0_ n1_ n2_ n3_ n4_ nb_; (try clear hb); (try clear hkp); (try clear hd); (try clear ho0)) | ((with_reducible refine gate_callee (f := 14) rfl ?_); refine goesL_ (some 52) rfl rfl Try.func14 (by kernel_rfl) rfl #[.slice Av105 t105.length cv105, .slice Av110 t110.length cv110] rfl (by (try simp only [List.map_toArray, List.map_cons, List.map_nil]); first | done | rfl) ?_; (with_reducible refine (laws_eqInt64S.calls k _ _ t105 _ _ t110 true _ ?side1 ?side2 ?side3 ?side4 X12_.out).mono ?_); (case side1 => repeat (first | exact (Kd.R_reads' HO105.out).2.2 | (with_reducible refine Kd.C_alloc ?_ _) | (with_reducible refine Kd.C_drewN ?_ _) | (with_reducible refine Kd.C_drew ?_))); (case side2 => exact (Kd.R_reads' HO105.out).2.1); (case side3 => repeat (first | exact (Kd.R_reads' HO110.out).2.2 | (with_reducible refine Kd.C_alloc ?_ _) | (with_reducible refine Kd.C_drewN ?_ _) | (with_reducible refine Kd.C_drew ?_))); (case side4 => exact (Kd.R_reads' HO110.out).2.1); rintro e w' ⟨rfl, ⟨nd, rfl⟩⟩; refine ⟨_, rfl, ?_⟩) | ((with_reducible refine gate_callee (f := 11) rfl ?_); refine goesL_ (some 56) rfl rfl Try.func11 (by kernel_rfl) rfl #[.slice A1 l1.length c1] rfl (by (try simp only [List.map_toArray, List.map_cons, List.map_nil]); first | done | rfl) ?_; (with_reducible refine (laws_toInt64S.calls k _ _ l1 t112 _ ?side1 ?side2 X14_.out).mono ?_); (case side1 => repeat (first | exact (Kd.C_below HR1.out (by repeat (first | (with_reducible first | exact HB.out | apply below_alloc | apply pw_below_drewN | apply below_drew1) | exact HB.out))) | (with_reducible refine Kd.C_alloc ?_ _) | (with_reducible refine Kd.C_drewN ?_ _) | (with_reducible refine Kd.C_drew ?_))); (case side2 => exact HC1.out); rintro e w14_ ⟨v112, rfl, ho0, hb⟩; refine ⟨_, rfl, ?_⟩; have HZ14 := Aside0.mk (show w11_.heap.size ≤ w14_.heap.size from hb.size); obtain ⟨Av112, cv112, ez_⟩ := Kd.R_slice ho0; subst ez_; have n0_ := Aside0.mk (Kd.S_below (by (with_reducible repeat (first | apply Kd.S_alloc | apply Kd.S_drewN | apply Kd.S_drew)); exact HO103.out) hb); have n1_ := Aside0.mk (Kd.R_below (by (with_reducible repeat (first | apply Kd.R_alloc | apply Kd.R_drewN | apply Kd.R_drew)); exact HO105.out) hb); have n2_ := Aside0.mk (Kd.R_below (by (with_reducible repeat (first | apply Kd.R_alloc | apply Kd.R_drewN | apply Kd.R_drew)); exact HO106.out) hb); have n3_ := Aside0.mk (Kd.S_below (by (with_reducible repeat (first | apply Kd.S_alloc | apply Kd.S_drewN | apply Kd.S_drew)); exact HO107.out) hb); have n4_ := Aside0.mk (Kd.R_below (by (with_reducible repeat (first | apply Kd.R_alloc | apply Kd.R_drewN | apply Kd.R_drew)); exact HO110.out) hb); have n5_ := Aside0.mk ((show Kd.R (Kd.int .i64) 2 w14_ w.heap.size (fun k_ => True ∧ some k_ = (.slice Av112 t112.length cv112 : Value).ownBlock ∧ w11_.heap.size ≤ k_ ∧ k_ < w14_.heap.size) (.slice Av112 t112.length cv112) t112 from laws_FnExactDeviationsOf.R_iv rfl ho0 (below_size (by repeat (first | (with_reducible first | exact HB.out | apply below_alloc | apply pw_below_drewN | apply below_drew1) | exact HB.out))))); have nb_ := Aside0.mk (below_step (by repeat (first | (with_reducible first | exact HB.out | apply below_alloc | apply pw_below_drewN | apply below_drew1) | exact HB.out)) hb); clear HO103; clear HO105; clear HO106; clear HO107; clear HO110; clear HB; have HO103 := n0_; have HO105 := n1_; have HO106 := n2_; have HO107 := n3_; have HO110 := n4_; have HO112 := n5_; have HB := nb_; clear n0_ n1_ n2_ n3_ n4_ n5_ nb_; (try clear hb); (try clear hkp); (try clear hd); (try clear ho0); (try clear HO110)) | ((with_reducible refine gate_callee (f := 14) rfl ?_); refine goesL_ (some 57) rfl rfl Try.func14 (by kernel_rfl) rfl #[.slice Av106 t106.length cv106, .slice Av112 t112.length cv112] rfl (by (try simp only [List.map_toArray, List.map_cons, List.map_nil]); first | done | rfl) ?_; (with_reducible refine (laws_eqInt64S.calls k _ _ t106 _ _ t112 true _ ?side1 ?side2 ?side3 ?side4 X15_.out).mono ?_); (case side1 => repeat (first | exact (Kd.R_reads' HO106.out).2.2 | (with_reducible refine Kd.C_alloc ?_ _) | (with_reducible refine Kd.C_drewN ?_ _) | (with_reducible refine Kd.C_drew ?_))); (case side2 => exact (Kd.R_reads' HO106.out).2.1); (case side3 => repeat (first | exact (Kd.R_reads' HO112.out).2.2 | (with_reducible refine Kd.C_alloc ?_ _) | (with_reducible refine Kd.C_drewN ?_ _) | (with_reducible refine Kd.C_drew ?_))); (case side4 => exact (Kd.R_reads' HO112.out).2.1); rintro e w' ⟨rfl, ⟨nd, rfl⟩⟩; refine ⟨_, rfl, ?_⟩) | ((with_reducible refine gate_callee (f := 15) rfl ?_); refine goesL_ (some 61) rfl rfl Try.func15 (by kernel_rfl) rfl #[.slice Av105 t105.length cv105, .int .i64 1] rfl (by (try simp only [List.map_toArray, List.map_cons, List.map_nil]); first | done | rfl) ?_; (with_reducible refine (laws_markInt64S.calls k (fun k_ => True ∧ some k_ = (.slice Av105 t105.length cv105 : Value).ownBlock ∧ w4_.heap.size ≤ k_ ∧ k_ < w5_.heap.size) (.slice Av105 t105.length cv105) t105 1 t114 t115 w _ ?side1 ?side2 X17_.out).mono ?_); (case side1 => exact (by repeat (first | (with_reducible first | exact HB.out | apply below_alloc | apply pw_below_drewN | apply below_drew1) | exact HB.out))); (case side2 => exact (by (with_reducible repeat (first | apply Kd.R_alloc | apply Kd.R_drewN | apply Kd.R_drew)); exact HO105.out)); rintro e w17_ ⟨rfl, hy0, hb, hkp⟩; refine ⟨_, rfl, ?_⟩; have HZ17 := Aside0.mk (show w14_.heap.size ≤ w17_.heap.size from hkp.1); have n0_ := Aside0.mk (Kd.S_kept (by (with_reducible repeat (first | apply Kd.S_alloc | apply Kd.S_drewN | apply Kd.S_drew)); exact HO103.out) hkp (fun k_ hi_ hs_ => (by have a_ := hi_.2; have b_ := hs_.2.2; have z2_ := HZ2.out; have z3_ := HZ3.out; have z4_ := HZ4.out; have z5_ := HZ5.out; have z6_ := HZ6.out; have z7_ := HZ7.out; have z8_ := HZ8.out; have z11_ := HZ11.out; have z14_ := HZ14.out; have z17_ := HZ17.out; omega))); have n1_ := Aside0.mk (Kd.R_kept (by (with_reducible repeat (first | apply Kd.R_alloc | apply Kd.R_drewN | apply Kd.R_drew)); exact HO106.out) hkp (fun k_ hi_ hs_ => (by have a_ := hi_.2.2; have b_ := hs_.2.2; have z2_ := HZ2.out; have z3_ := HZ3.out; have z4_ := HZ4.out; have z5_ := HZ5.out; have z6_ := HZ6.out; have z7_ := HZ7.out; have z8_ := HZ8.out; have z11_ := HZ11.out; have z14_ := HZ14.out; have z17_ := HZ17.out; omega))); have n2_ := Aside0.mk (Kd.S_kept (by (with_reducible repeat (first | apply Kd.S_alloc | apply Kd.S_drewN | apply Kd.S_drew)); exact HO107.out) hkp (fun k_ hi_ hs_ => (by have a_ := hi_.2; have b_ := hs_.2.2; have z2_ := HZ2.out; have z3_ := HZ3.out; have z4_ := HZ4.out; have z5_ := HZ5.out; have z6_ := HZ6.out; have z7_ := HZ7.out; have z8_ := HZ8.out; have z11_ := HZ11.out; have z14_ := HZ14.out; have z17_ := HZ17.out; omega))); have nb_ := Aside0.mk (hb); clear HO103; clear HO105; clear HO106; clear HO107; clear HO112; clear HB; have HO103 := n0_; have HO106 := n1_; have HO107 := n2_; have HB := nb_; clear n0_ n1_ n2_ nb_; (try clear hb); (try clear hkp); (try clear hd); (try clear hy0)) | ((with_reducible refine gate_callee (f := 15) rfl ?_); refine goesL_ (some 64) rfl rfl Try.func15 (by kernel_rfl) rfl #[.slice Av106 t106.length cv106, .int .i64 t114] rfl (by (try simp only [List.map_toArray, List.map_cons, List.map_nil]); first | done | rfl) ?_; (with_reducible refine (laws_markInt64S.calls k (fun k_ => True ∧ some k_ = (.slice Av106 t106.length cv106 : Value).ownBlock ∧ w5_.heap.size ≤ k_ ∧ k_ < w6_.heap.size) (.slice Av106 t106.length cv106) t106 t114 t116 t117 w _ ?side1 ?side2 X18_.out).mono ?_); (case side1 => exact (by repeat (first | (with_reducible first | exact HB.out | apply below_alloc | apply pw_below_drewN | apply below_drew1) | exact HB.out))); (case side2 => exact (by (with_reducible repeat (first | apply Kd.R_alloc | apply Kd.R_drewN | apply Kd.R_drew)); exact HO106.out)); rintro e w18_ ⟨rfl, hy0, hb, hkp⟩; refine ⟨_, rfl, ?_⟩; have HZ18 := Aside0.mk (show w17_.heap.size ≤ w18_.heap.size from hkp.1); have n0_ := Aside0.mk (Kd.S_kept (by (with_reducible repeat (first | apply Kd.S_alloc | apply Kd.S_drewN | apply Kd.S_drew)); exact HO103.out) hkp (fun k_ hi_ hs_ => (by have a_ := hi_.2; have b_ := hs_.2.2; have z2_ := HZ2.out; have z3_ := HZ3.out; have z4_ := HZ4.out; have z5_ := HZ5.out; have z6_ := HZ6.out; have z7_ := HZ7.out; have z8_ := HZ8.out; have z11_ := HZ11.out; have z14_ := HZ14.out; have z17_ := HZ17.out; have z18_ := HZ18.out; omega))); have n1_ := Aside0.mk (Kd.S_kept (by (with_reducible repeat (first | apply Kd.S_alloc | apply Kd.S_drewN | apply Kd.S_drew)); exact HO107.out) hkp (fun k_ hi_ hs_ => (by have a_ := hi_.2; have b_ := hs_.2.2; have z2_ := HZ2.out; have z3_ := HZ3.out; have z4_ := HZ4.out; have z5_ := HZ5.out; have z6_ := HZ6.out; have z7_ := HZ7.out; have z8_ := HZ8.out; have z11_ := HZ11.out; have z14_ := HZ14.out; have z17_ := HZ17.out; have z18_ := HZ18.out; omega))); have nb_ := Aside0.mk (hb); clear HO103; clear HO106; clear HO107; clear HB; have HO103 := n0_; have HO107 := n1_; have HB := nb_; clear n0_ n1_ nb_; (try clear hb); (try clear hkp); (try clear hd); (try clear hy0)) | (go_at_call 13; (with_reducible refine (laws_eqInt64SS.calls k _ _ t107 _ _ t103 true _ ?side1 ?side2 ?side3 ?side4 X20_.out).mono ?_); (case side1 => repeat (first | exact (Kd.S_reads' HO107.out).2.2 | (with_reducible refine Kd.C_alloc ?_ _) | (with_reducible refine Kd.C_drewN ?_ _) | (with_reducible refine Kd.C_drew ?_))); (case side2 => exact (Kd.S_reads' HO107.out).2.1); (case side3 => repeat (first | exact (Kd.S_reads' HO103.out).2.2 | (with_reducible refine Kd.C_alloc ?_ _) | (with_reducible refine Kd.C_drewN ?_ _) | (with_reducible refine Kd.C_drew ?_))); (case side4 => exact (Kd.S_reads' HO103.out).2.1); rintro e w20_ ⟨rfl, hb⟩; have HZ20 := Aside0.mk (show w18_.heap.size ≤ w20_.heap.size from hb.size); have n0_ := Aside0.mk (Kd.S_below (by (with_reducible repeat (first | apply Kd.S_alloc | apply Kd.S_drewN | apply Kd.S_drew)); exact HO103.out) hb); have n1_ := Aside0.mk (Kd.S_below (by (with_reducible repeat (first | apply Kd.S_alloc | apply Kd.S_drewN | apply Kd.S_drew)); exact HO107.out) hb); have nb_ := Aside0.mk (below_step (by repeat (first | (with_reducible first | exact HB.out | apply below_alloc | apply pw_below_drewN | apply below_drew1) | exact HB.out)) hb); clear HO103; clear HO107; clear HB; have HO103 := n0_; have HO107 := n1_; have HB := nb_; clear n0_ n1_ nb_; (try clear hb); (try clear hkp); (try clear hd)) | ((with_reducible refine gate_callee (f := 16) rfl ?_); refine goesL_ (some 80) rfl rfl Try.func16 (by kernel_rfl) rfl #[.slice Av107 t107.length cv107, .int .i64 1] rfl (by (try simp only [List.map_toArray, List.map_cons, List.map_nil]); first | done | rfl) ?_; (with_reducible refine (laws_markInt64SS.calls k (fun k_ => True ∧ w6_.heap.size ≤ k_ ∧ k_ < w7_.heap.size) (.slice Av107 t107.length cv107) t107 1 t119 t120 w _ ?side1 ?side2 X22_.out).mono ?_); (case side1 => exact (by repeat (first | (with_reducible first | exact HB.out | apply below_alloc | apply pw_below_drewN | apply below_drew1) | exact HB.out))); (case side2 => exact (by (with_reducible repeat (first | apply Kd.S_alloc | apply Kd.S_drewN | apply Kd.S_drew)); exact HO107.out)); rintro e w22_ ⟨rfl, hy0, hb, hkp⟩; refine ⟨_, rfl, ?_⟩; have HZ22 := Aside0.mk (show w20_.heap.size ≤ w22_.heap.size from hkp.1); have EL22_0 := Aside0.mk (show t107.length = t120.length from (Kd.S_reads' hy0).1); have n0_ := Aside0.mk (Kd.S_kept (by (with_reducible repeat (first | apply Kd.S_alloc | apply Kd.S_drewN | apply Kd.S_drew)); exact HO103.out) hkp (fun k_ hi_ hs_ => (by have a_ := hi_.2; have b_ := hs_.2; have z2_ := HZ2.out; have z3_ := HZ3.out; have z4_ := HZ4.out; have z5_ := HZ5.out; have z6_ := HZ6.out; have z7_ := HZ7.out; have z8_ := HZ8.out; have z11_ := HZ11.out; have z14_ := HZ14.out; have z17_ := HZ17.out; have z18_ := HZ18.out; have z20_ := HZ20.out; have z22_ := HZ22.out; omega))); have n1_ := Aside0.mk ((show Kd.S (Kd.slice 2 (Kd.int .i64)) 22 w22_ w.heap.size (fun k_ => True ∧ w6_.heap.size ≤ k_ ∧ k_ < w7_.heap.size) (.slice Av107 t120.length cv107) t120 from by rw [← EL22_0.out]; exact hy0)); have nb_ := Aside0.mk (hb); clear HO103; clear HO107; clear HB; have HO103 := n0_; have HO107 := n1_; have HB := nb_; clear n0_ n1_ nb_; (try clear hb); (try clear hkp); (try clear hd); (try clear hy0)) | ((with_reducible refine gate_callee (f := 17) rfl ?_); refine goesL_ (some 83) rfl rfl Try.func17 (by kernel_rfl) rfl #[.slice Av107 t120.length cv107, .int .i64 1] rfl (by (try simp only [List.map_toArray, List.map_cons, List.map_nil]); first | done | rfl | (simp only [EL22_0.out]; done) | (simp only [EL22_0.out]; rfl)) ?_; (with_reducible refine (laws_heldInt64SS.calls k _ _ t120 1 t121 _ ?side1 ?side2 X23_.out).mono ?_); (case side1 => repeat (first | exact (Kd.S_reads' HO107.out).2.2 | (with_reducible refine Kd.C_alloc ?_ _) | (with_reducible refine Kd.C_drewN ?_ _) | (with_reducible refine Kd.C_drew ?_))); (case side2 => exact (Kd.S_reads' HO107.out).2.1); rintro e w' ⟨rfl, ⟨nd, rfl⟩⟩; refine ⟨_, rfl, ?_⟩) | ((with_reducible refine gate_callee (f := 11) rfl ?_); refine goesL_ (some 91) rfl rfl Try.func11 (by kernel_rfl) rfl #[.slice A0 l0.length c0] rfl (by (try simp only [List.map_toArray, List.map_cons, List.map_nil]); first | done | rfl | (simp only [EL22_0.out]; done) | (simp only [EL22_0.out]; rfl)) ?_; (with_reducible refine (laws_toInt64S.calls k _ _ l0 t122 _ ?side1 ?side2 X26_.out).mono ?_); (case side1 => repeat (first | exact (Kd.C_below HR0.out (by repeat (first | (with_reducible first | exact HB.out | apply below_alloc | apply pw_below_drewN | apply below_drew1) | exact HB.out))) | (with_reducible refine Kd.C_alloc ?_ _) | (with_reducible refine Kd.C_drewN ?_ _) | (with_reducible refine Kd.C_drew ?_))); (case side2 => exact HC0.out); rintro e w26_ ⟨v122, rfl, ho0, hb⟩; refine ⟨_, rfl, ?_⟩; have HZ26 := Aside0.mk (show w22_.heap.size ≤ w26_.heap.size from hb.size); obtain ⟨Av122, cv122, ez_⟩ := Kd.R_slice ho0; subst ez_; have n0_ := Aside0.mk (Kd.S_below (by (with_reducible repeat (first | apply Kd.S_alloc | apply Kd.S_drewN | apply Kd.S_drew)); exact HO103.out) hb); have n1_ := Aside0.mk (Kd.S_below (by (with_reducible repeat (first | apply Kd.S_alloc | apply Kd.S_drewN | apply Kd.S_drew)); exact HO107.out) hb); have n2_ := Aside0.mk ((show Kd.R (Kd.int .i64) 2 w26_ w.heap.size (fun k_ => True ∧ some k_ = (.slice Av122 t122.length cv122 : Value).ownBlock ∧ w22_.heap.size ≤ k_ ∧ k_ < w26_.heap.size) (.slice Av122 t122.length cv122) t122 from laws_FnExactDeviationsOf.R_iv rfl ho0 (below_size (by repeat (first | (with_reducible first | exact HB.out | apply below_alloc | apply pw_below_drewN | apply below_drew1) | exact HB.out))))); have nb_ := Aside0.mk (below_step (by repeat (first | (with_reducible first | exact HB.out | apply below_alloc | apply pw_below_drewN | apply below_drew1) | exact HB.out)) hb); clear HO103; clear HO107; clear HB; have HO103 := n0_; have HO107 := n1_; have HO122 := n2_; have HB := nb_; clear n0_ n1_ n2_ nb_; (try clear hb); (try clear hkp); (try clear hd); (try clear ho0)) | ((with_reducible refine gate_callee (f := 11) rfl ?_); refine goesL_ (some 93) rfl rfl Try.func11 (by kernel_rfl) rfl #[.slice A1 l1.length c1] rfl (by (try simp only [List.map_toArray, List.map_cons, List.map_nil]); first | done | rfl | (simp only [EL22_0.out]; done) | (simp only [EL22_0.out]; rfl)) ?_; (with_reducible refine (laws_toInt64S.calls k _ _ l1 t123 _ ?side1 ?side2 X27_.out).mono ?_); (case side1 => repeat (first | exact (Kd.C_below HR1.out (by repeat (first | (with_reducible first | exact HB.out | apply below_alloc | apply pw_below_drewN | apply below_drew1) | exact HB.out))) | (with_reducible refine Kd.C_alloc ?_ _) | (with_reducible refine Kd.C_drewN ?_ _) | (with_reducible refine Kd.C_drew ?_))); (case side2 => exact HC1.out); rintro e w27_ ⟨v123, rfl, ho0, hb⟩; refine ⟨_, rfl, ?_⟩; have HZ27 := Aside0.mk (show w26_.heap.size ≤ w27_.heap.size from hb.size); obtain ⟨Av123, cv123, ez_⟩ := Kd.R_slice ho0; subst ez_; have n0_ := Aside0.mk (Kd.S_below (by (with_reducible repeat (first | apply Kd.S_alloc | apply Kd.S_drewN | apply Kd.S_drew)); exact HO103.out) hb); have n1_ := Aside0.mk (Kd.S_below (by (with_reducible repeat (first | apply Kd.S_alloc | apply Kd.S_drewN | apply Kd.S_drew)); exact HO107.out) hb); have n2_ := Aside0.mk (Kd.R_below (by (with_reducible repeat (first | apply Kd.R_alloc | apply Kd.R_drewN | apply Kd.R_drew)); exact HO122.out) hb); have n3_ := Aside0.mk ((show Kd.R (Kd.int .i64) 2 w27_ w.heap.size (fun k_ => True ∧ some k_ = (.slice Av123 t123.length cv123 : Value).ownBlock ∧ w26_.heap.size ≤ k_ ∧ k_ < w27_.heap.size) (.slice Av123 t123.length cv123) t123 from laws_FnExactDeviationsOf.R_iv rfl ho0 (below_size (by repeat (first | (with_reducible first | exact HB.out | apply below_alloc | apply pw_below_drewN | apply below_drew1) | exact HB.out))))); have nb_ := Aside0.mk (below_step (by repeat (first | (with_reducible first | exact HB.out | apply below_alloc | apply pw_below_drewN | apply below_drew1) | exact HB.out)) hb); clear HO103; clear HO107; clear HO122; clear HB; have HO103 := n0_; have HO107 := n1_; have HO122 := n2_; have HO123 := n3_; have HB := nb_; clear n0_ n1_ n2_ n3_ nb_; (try clear hb); (try clear hkp); (try clear hd); (try clear ho0)) | ((with_reducible refine gate_callee (f := 19) rfl ?_); refine goesL_ (some 94) rfl rfl Try.func19 (by kernel_rfl) rfl #[.slice Av122 t122.length cv122, .slice Av123 t123.length cv123] rfl (by (try simp only [List.map_toArray, List.map_cons, List.map_nil]); first | done | rfl | (simp only [EL22_0.out]; done) | (simp only [EL22_0.out]; rfl)) ?_; (with_reducible refine (impl_DeviationsOf.calls k _ _ t122 _ _ t123 t124 t125 _ ?side1 ?side2 ?side3 ?side4 X28_.out).mono ?_); (case side1 => repeat (first | exact (Kd.R_reads' HO122.out).2.2 | (with_reducible refine Kd.C_alloc ?_ _) | (with_reducible refine Kd.C_drewN ?_ _) | (with_reducible refine Kd.C_drew ?_))); (case side2 => exact (Kd.R_reads' HO122.out).2.1); (case side3 => repeat (first | exact (Kd.R_reads' HO123.out).2.2 | (with_reducible refine Kd.C_alloc ?_ _) | (with_reducible refine Kd.C_drewN ?_ _) | (with_reducible refine Kd.C_drew ?_))); (case side4 => exact (Kd.R_reads' HO123.out).2.1); rintro e w28_ ⟨v124, rfl, ho0, hb⟩; refine ⟨_, rfl, ?_⟩; have HZ28 := Aside0.mk (show w27_.heap.size ≤ w28_.heap.size from hb.size); obtain ⟨Av124, cv124, ez_⟩ := Kd.S_slice ho0; subst ez_; have n0_ := Aside0.mk (Kd.S_below (by (with_reducible repeat (first | apply Kd.S_alloc | apply Kd.S_drewN | apply Kd.S_drew)); exact HO103.out) hb); have n1_ := Aside0.mk (Kd.S_below (by (with_reducible repeat (first | apply Kd.S_alloc | apply Kd.S_drewN | apply Kd.S_drew)); exact HO107.out) hb); have n2_ := Aside0.mk (Kd.R_below (by (with_reducible repeat (first | apply Kd.R_alloc | apply Kd.R_drewN | apply Kd.R_drew)); exact HO122.out) hb); have n3_ := Aside0.mk (Kd.R_below (by (with_reducible repeat (first | apply Kd.R_alloc | apply Kd.R_drewN | apply Kd.R_drew)); exact HO123.out) hb); have n4_ := Aside0.mk ((show Kd.S (Kd.slice 2 (Kd.int .i64)) 22 w28_ w.heap.size (fun k_ => True ∧ w27_.heap.size ≤ k_ ∧ k_ < w28_.heap.size) (.slice Av124 t124.length cv124) t124 from laws_FnExactDeviationsOf.S_iv ho0 (below_size (by repeat (first | (with_reducible first | exact HB.out | apply below_alloc | apply pw_below_drewN | apply below_drew1) | exact HB.out))))); have nb_ := Aside0.mk (below_step (by repeat (first | (with_reducible first | exact HB.out | apply below_alloc | apply pw_below_drewN | apply below_drew1) | exact HB.out)) hb); clear HO103; clear HO107; clear HO122; clear HO123; clear HB; have HO103 := n0_; have HO107 := n1_; have HO122 := n2_; have HO123 := n3_; have HO124 := n4_; have HB := nb_; clear n0_ n1_ n2_ n3_ n4_ nb_; (try clear hb); (try clear hkp); (try clear hd); (try clear ho0); (try clear HO122); (try clear HO123)) | ((with_reducible refine gate_callee (f := 13) rfl ?_); refine goesL_ (some 99) rfl rfl Try.func13 (by kernel_rfl) rfl #[.slice Av124 t124.length cv124, .slice Av103 t103.length cv103] rfl (by (try simp only [List.map_toArray, List.map_cons, List.map_nil]); first | done | rfl | (simp only [EL22_0.out]; done) | (simp only [EL22_0.out]; rfl)) ?_; (with_reducible refine (laws_eqInt64SS.calls k _ _ t124 _ _ t103 true _ ?side1 ?side2 ?side3 ?side4 X29_.out).mono ?_); (case side1 => repeat (first | exact (Kd.S_reads' HO124.out).2.2 | (with_reducible refine Kd.C_alloc ?_ _) | (with_reducible refine Kd.C_drewN ?_ _) | (with_reducible refine Kd.C_drew ?_))); (case side2 => exact (Kd.S_reads' HO124.out).2.1); (case side3 => repeat (first | exact (Kd.S_reads' HO103.out).2.2 | (with_reducible refine Kd.C_alloc ?_ _) | (with_reducible refine Kd.C_drewN ?_ _) | (with_reducible refine Kd.C_drew ?_))); (case side4 => exact (Kd.S_reads' HO103.out).2.1); rintro e w29_ ⟨rfl, hb⟩; refine ⟨_, rfl, ?_⟩; have HZ29 := Aside0.mk (show w28_.heap.size ≤ w29_.heap.size from hb.size); have n0_ := Aside0.mk (Kd.S_below (by (with_reducible repeat (first | apply Kd.S_alloc | apply Kd.S_drewN | apply Kd.S_drew)); exact HO103.out) hb); have n1_ := Aside0.mk (Kd.S_below (by (with_reducible repeat (first | apply Kd.S_alloc | apply Kd.S_drewN | apply Kd.S_drew)); exact HO107.out) hb); have n2_ := Aside0.mk (Kd.S_below (by (with_reducible repeat (first | apply Kd.S_alloc | apply Kd.S_drewN | apply Kd.S_drew)); exact HO124.out) hb); have nb_ := Aside0.mk (below_step (by repeat (first | (with_reducible first | exact HB.out | apply below_alloc | apply pw_below_drewN | apply below_drew1) | exact HB.out)) hb); clear HO103; clear HO107; clear HO124; clear HB; have HO103 := n0_; have HO107 := n1_; have HO124 := n2_; have HB := nb_; clear n0_ n1_ n2_ nb_; (try clear hb); (try clear hkp); (try clear hd); (try clear HO103); (try clear HO124)) | ((with_reducible refine gate_callee (f := 17) rfl ?_); refine goesL_ (some 108) rfl rfl Try.func17 (by kernel_rfl) rfl #[.slice Av107 t120.length cv107, .int .i64 1] rfl (by (try simp only [List.map_toArray, List.map_cons, List.map_nil]); first | done | rfl | (simp only [EL22_0.out]; done) | (simp only [EL22_0.out]; rfl)) ?_; (with_reducible refine (laws_heldInt64SS.calls k _ _ t120 1 t127 _ ?side1 ?side2 X32_.out).mono ?_); (case side1 => repeat (first | exact (Kd.S_reads' HO107.out).2.2 | (with_reducible refine Kd.C_alloc ?_ _) | (with_reducible refine Kd.C_drewN ?_ _) | (with_reducible refine Kd.C_drew ?_))); (case side2 => exact (Kd.S_reads' HO107.out).2.1); rintro e w' ⟨rfl, ⟨nd, rfl⟩⟩; refine ⟨_, rfl, ?_⟩))
      go_ret
      exact ⟨by first | rfl | (simp [errW_none, errW_some] <;> rfl) | (simp [*, errW_none, errW_some] <;> rfl), by repeat (first | (with_reducible first | exact HB.out | apply below_alloc | apply pw_below_drewN | apply below_drew1) | exact HB.out)⟩

/-- The one pure statement of laws_FnExactDeviationsOf. -/
def laws_FnExactDeviationsOf.Pure : Prop := ∀ (l0 : List Int) (l1 : List Int), l0.length ≤ 9223372036854775807 → (∀ x ∈ l0, (Lit.int .i64 x).wf = true) → l1.length ≤ 9223372036854775807 → (∀ x ∈ l1, (Lit.int .i64 x).wf = true) → ∃ k, laws_FnExactDeviationsOf.f k l0 l1 = some true

end Go.Proofs.Ytkcdmmegdhiabaa.PFnExactDeviationsOf
