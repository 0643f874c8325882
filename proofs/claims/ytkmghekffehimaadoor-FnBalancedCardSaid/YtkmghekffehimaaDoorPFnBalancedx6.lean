/- Written by this session's program (wip/tool/xprint.py) over the kit's printer. -/
import Derived.Test.YtkmghekffehimaaDoorPFnBalancedx0
import Derived.Test.YtkmghekffehimaaDoorPFnBalancedx5
namespace Go.Proofs.YtkmghekffehimaaDoor.PFnBalanced
open Go.RowKit Go.Proofs.YtkmghekffehimaaDoorW.PrintWords Go.Proofs.YtkmghekffehimaaDoorW.PrintLast Go.Proofs.YtkmghekffehimaaDoorW.PrintMore
attribute [local go_sem] max2_int min2_int max_two min_two max_three min_three max_four min_four   -- for this text's walks alone
set_option linter.unusedVariables false
set_option linter.unusedSimpArgs false

/-! ### spec_l01Floor: function 64 -/
def spec_l01Floor.f (a0 : Int) (a1 : Int) : Option (Int) := if a1 = 0 then (none) else (if (wrap64 ((wrap64 (Int.tdiv a0 a1)) * a1)) > a0 then (some (wrap64 ((wrap64 (Int.tdiv a0 a1)) - 1))) else (some (wrap64 (Int.tdiv a0 a1))))
set_option maxHeartbeats 8000000 in
set_option maxRecDepth 100000 in
theorem spec_l01Floor.calls (a0 : Int) (a1 : Int) (r : Int) (w : World) (h : spec_l01Floor.f a0 a1 = some r) :
    Calls Tryd.prog 64 #[.int .i64 a0, .int .i64 a1] w fun e w' => e = .returned (.int .i64 r) ∧ Drawn0 w w' := by
  have H : (if a1 = 0 then (none) else (if (wrap64 ((wrap64 (Int.tdiv a0 a1)) * a1)) > a0 then (some (wrap64 ((wrap64 (Int.tdiv a0 a1)) - 1))) else (some (wrap64 (Int.tdiv a0 a1))))) = some r := h
  clear h
  by_cases c3 : a1 = 0
  · rw [if_pos c3] at H
    exact absurd H (by simp)
  · rw [if_neg c3] at H
    have c3b0 : (a1 == 0) = false := beq_eq_false_iff_ne.mpr c3
    have c3b1 : (a1 != 0) = true := bne_iff_ne.mpr c3
    by_cases c4 : (wrap64 ((wrap64 (Int.tdiv a0 a1)) * a1)) > a0
    · rw [if_pos c4] at H
      have c4b0 : decide (a0 < (wrap64 ((wrap64 (Int.tdiv a0 a1)) * a1))) = true := decide_eq_true c4
      clear c4
      obtain rfl := Option.some.inj H
      go_enter Tryd.func64, Tryd.ntmps64
      go_wp2
      go_ret
      exact ⟨by first | rfl | (simp; done) | (simp [*]; done), by repeat (first | exact Drawn0.refl _ | apply Drawn0.step)⟩
    · rw [if_neg c4] at H
      have c4b0 : decide (a0 < (wrap64 ((wrap64 (Int.tdiv a0 a1)) * a1))) = false := decide_eq_false c4
      clear c4
      obtain rfl := Option.some.inj H
      go_enter Tryd.func64, Tryd.ntmps64
      go_wp2
      go_ret
      exact ⟨by first | rfl | (simp; done) | (simp [*]; done), by repeat (first | exact Drawn0.refl _ | apply Drawn0.step)⟩

/-! ### spec_l07Line: function 47 -/
def spec_l07Line.l0 : Nat → Int → Int → Int → Int → List Int → Int → Option (ByteArray)
  | 0, _, _, _, _, _, _ => none
  | k + 1, x0, x1, x2, x3, x9, x10 => if x10 < x3 then ((spec_l01Floor.f (wrap64 ((wrap64 ((wrap64 (x10 + 1)) * x0)) + x2)) x1).bind fun t199 => ((spec_l01Floor.f (wrap64 ((wrap64 (x10 * x0)) + x2)) x1).bind fun t200 => (if t199 > t200 then (if x9.length < 140737488355328 then (spec_l07Line.l0 k x0 x1 x2 x3 (x9 ++ [98]) (wrap64 (x10 + 1))) else (none)) else (if x9.length < 140737488355328 then (spec_l07Line.l0 k x0 x1 x2 x3 (x9 ++ [97]) (wrap64 (x10 + 1))) else (none))))) else (some (strOfNums x9))
def spec_l07Line.f (k : Nat) (a0 : Int) (a1 : Int) (a2 : Int) (a3 : Int) : Option (ByteArray) := spec_l07Line.l0 k a0 a1 a2 a3 (([] : List Int)) 0
theorem spec_l07Line.mono_l : ∀ k, (∀ y0 y1 y2 y3 y4 y5, LeO (spec_l07Line.l0 k y0 y1 y2 y3 y4 y5) (spec_l07Line.l0 (k + 1) y0 y1 y2 y3 y4 y5))
  | 0 => fun _ _ _ _ _ _ r h => by simp [spec_l07Line.l0] at h
  | k + 1 => by
    have ih0 := spec_l07Line.mono_l k
    · intro y0 y1 y2 y3 y4 y5
      unfold spec_l07Line.l0
      repeat' first
      | (with_reducible exact ih0 _ _ _ _ _ _)
      | (with_reducible exact LeO.refl _)
      | (with_reducible exact LeO.none _)
      | (with_reducible refine LeO.ite ?_ ?_)
      | (with_reducible refine LeO.bind ?_ (fun _ => ?_))
      | exact ih0 _ _ _ _ _ _
      | exact LeO.none _
      | refine LeO.ite ?_ ?_
      | refine LeO.bind ?_ (fun _ => ?_)
theorem spec_l07Line.mono : ∀ a0 a1 a2 a3 k, LeO (spec_l07Line.f k a0 a1 a2 a3) (spec_l07Line.f (k + 1) a0 a1 a2 a3) := by
  intro a0 a1 a2 a3 k
  have ih0 := spec_l07Line.mono_l k
  unfold spec_l07Line.f
  repeat' first
      | (with_reducible exact ih0 _ _ _ _ _ _)
      | (with_reducible exact LeO.refl _)
      | (with_reducible exact LeO.none _)
      | (with_reducible refine LeO.ite ?_ ?_)
      | (with_reducible refine LeO.bind ?_ (fun _ => ?_))
      | exact ih0 _ _ _ _ _ _
      | exact LeO.none _
      | refine LeO.ite ?_ ?_
      | refine LeO.bind ?_ (fun _ => ?_)
set_option maxHeartbeats 8000000 in
set_option maxRecDepth 100000 in
theorem spec_l07Line.calls (k : Nat) (a0 : Int) (a1 : Int) (a2 : Int) (a3 : Int) (r : ByteArray) (w : World) (h : spec_l07Line.f k a0 a1 a2 a3 = some r) :
    Calls Tryd.prog 47 #[.int .i64 a0, .int .i64 a1, .int .i64 a2, .int .i64 a3] w fun e w' => e = .returned (.string r) ∧ Below w.heap.size w w' := by
  have HB := Aside0.mk (Below.refl w.heap.size w)
  have H : (spec_l07Line.l0 k a0 a1 a2 a3 (([] : List Int)) 0) = some r := h
  clear h
  obtain ⟨y196, hy196⟩ : ∃ y_ : List Int, y_ = (([] : List Int)) := ⟨_, rfl⟩
  replace H : (spec_l07Line.l0 k a0 a1 a2 a3 y196 0) = some r := by first | (rw [hy196]; with_reducible exact H) | (have H2_ := (Option.bind_some _ _).symm.trans H; rw [hy196]; with_reducible exact H2_) | (have H2_ := (Option.bind_some _ _).symm.trans H; with_reducible exact H2_) | with_reducible exact H | (rw [hy196]; exact H) | exact H
  have Ny196 := Aside0.mk hy196
  clear hy196
  have H' := Aside0.mk H
  clear H
  go_enter Tryd.func47, Tryd.ntmps47
  go_wp2_with (first | ((with_reducible refine gate_dst (N := 12) rfl ?_); refine Kd.R_lit (Kd.int .u8) _ 5 ?hg (N := 12) ?hd (xs := ([] : List Int)) (inner := []) (ok := fun _ => True) (okp := fun _ => True) ?hr ?hp (fun _ hk => hk) trivial (Below.refl _ _) (Nat.le_refl _) (by simp) ?_; (case hd => rfl); (case hg => rfl); (case hr => first | (go_simp; done) | (go_simp; rfl)); (case hp => exact (Reps.none _ _)); intro v197 w5 ho6 hb hg_ hnew_; clear hg_ hnew_; (first | rw [← Ny196.out] at ho6 | (simp only [Int.reduceToNat] at ho6; rw [← Ny196.out] at ho6)); have n0_ := Aside0.mk (Kd.R_lower ho6 (below_size (by repeat (first | (with_reducible first | exact HB.out | apply below_alloc | apply pw_below_drewN | apply below_drew1) | exact HB.out)))); have n1_ := Aside0.mk (below_step (by repeat (first | (with_reducible first | exact HB.out | apply below_alloc | apply pw_below_drewN | apply below_drew1) | exact HB.out)) hb); clear HB; have HO198 := n0_; have HB := n1_; clear n0_ n1_; clear hb ho6))
  go_loopg [9, 10] k (fun kq v9 v10 w' => ∃ (x9_1 : List Int) (x10_1 : Int), v10 = .int .i64 x10_1 ∧ Aside0 (spec_l07Line.l0 kq a0 a1 a2 a3 x9_1 x10_1 = some r) ∧ Aside0 (kq ≤ k) ∧ Aside0 (Kd.R (Kd.int .u8) 5 w' w.heap.size (fun _ => True) v9 x9_1) ∧ Aside0 (Below w.heap.size w w'))
  case atStart => exact ⟨(y196), (0), (by first | rfl | (simp; done) | (simp [*]; done)), H', ⟨Nat.le_refl _⟩, ⟨by (with_reducible repeat (first | apply Kd.R_alloc | apply Kd.R_drewN | apply Kd.R_drew)); exact HO198.out⟩, ⟨by repeat (first | (with_reducible first | exact HB.out | apply below_alloc | apply pw_below_drewN | apply below_drew1) | exact HB.out)⟩⟩
  case round =>
    clear H'
    try clear p2
    try clear c4
    obtain ⟨x9_1, x10_1, rfl, HA, HK1, HO_9, HB⟩ := hrel
    cases gk with
    | zero => exact absurd HA.out (by simp [spec_l07Line.l0])
    | succ k1 =>
      have H := HA.out
      clear HA
      simp only [spec_l07Line.l0] at H
      by_cases c7 : x10_1 < a3
      · rw [if_pos c7] at H
        have c7b0 : decide (x10_1 < a3) = true := decide_eq_true c7
        clear c7
        replace H := Option.bind_eq_some_iff.mp H
        obtain ⟨t199, A80, H⟩ := H
        replace H : ((spec_l01Floor.f (wrap64 ((wrap64 (x10_1 * a0)) + a2)) a1).bind fun t200 => (if t199 > t200 then (if x9_1.length < 140737488355328 then (spec_l07Line.l0 k1 a0 a1 a2 a3 (x9_1 ++ [98]) (wrap64 (x10_1 + 1))) else (none)) else (if x9_1.length < 140737488355328 then (spec_l07Line.l0 k1 a0 a1 a2 a3 (x9_1 ++ [97]) (wrap64 (x10_1 + 1))) else (none)))) = some r := H
        have A8 := Aside0.mk A80
        clear A80
        replace H := Option.bind_eq_some_iff.mp H
        obtain ⟨t200, A90, H⟩ := H
        replace H : (if t199 > t200 then (if x9_1.length < 140737488355328 then (spec_l07Line.l0 k1 a0 a1 a2 a3 (x9_1 ++ [98]) (wrap64 (x10_1 + 1))) else (none)) else (if x9_1.length < 140737488355328 then (spec_l07Line.l0 k1 a0 a1 a2 a3 (x9_1 ++ [97]) (wrap64 (x10_1 + 1))) else (none))) = some r := H
        have A9 := Aside0.mk A90
        clear A90
        by_cases c10 : t199 > t200
        · rw [if_pos c10] at H
          have c10b0 : decide (t200 < t199) = true := decide_eq_true c10
          clear c10
          by_cases c11 : x9_1.length < 140737488355328
          · rw [if_pos c11] at H
            have LMc11 := Aside0.mk c11
            clear c11
            obtain ⟨y201, hy201⟩ : ∃ y_ : List Int, y_ = (x9_1 ++ [98]) := ⟨_, rfl⟩
            replace H : (spec_l07Line.l0 k1 a0 a1 a2 a3 y201 (wrap64 (x10_1 + 1))) = some r := by first | (rw [hy201]; with_reducible exact H) | (have H2_ := (Option.bind_some _ _).symm.trans H; rw [hy201]; with_reducible exact H2_) | (have H2_ := (Option.bind_some _ _).symm.trans H; with_reducible exact H2_) | with_reducible exact H | (rw [hy201]; exact H) | exact H
            have Ny201 := Aside0.mk hy201
            clear hy201
            have H' := Aside0.mk H
            clear H
            go_wp2_with (first | ((with_reducible refine gate_callee (f := 64) rfl ?_); refine goesL_ (some 25) rfl rfl Tryd.func64 (by kernel_rfl) rfl #[.int .i64 (wrap64 ((wrap64 ((wrap64 (x10_1 + 1)) * a0)) + a2)), .int .i64 a1] rfl (by (try simp only [List.map_toArray, List.map_cons, List.map_nil]); first | done | rfl | (simp only [List.length_drop, List.length_take]; rfl)) ?_; (with_reducible refine (spec_l01Floor.calls (wrap64 ((wrap64 ((wrap64 (x10_1 + 1)) * a0)) + a2)) a1 t199 _ A8.out).mono ?_); rintro e w' ⟨rfl, ⟨nd, rfl⟩⟩; refine ⟨_, rfl, ?_⟩) | ((with_reducible refine gate_callee (f := 64) rfl ?_); refine goesL_ (some 32) rfl rfl Tryd.func64 (by kernel_rfl) rfl #[.int .i64 (wrap64 ((wrap64 (x10_1 * a0)) + a2)), .int .i64 a1] rfl (by (try simp only [List.map_toArray, List.map_cons, List.map_nil]); first | done | rfl | (simp only [List.length_drop, List.length_take]; rfl)) ?_; (with_reducible refine (spec_l01Floor.calls (wrap64 ((wrap64 (x10_1 * a0)) + a2)) a1 t200 _ A9.out).mono ?_); rintro e w' ⟨rfl, ⟨nd, rfl⟩⟩; refine ⟨_, rfl, ?_⟩) | ((with_reducible refine gate_builtin (b := .append) (xs := #[.tmp 34, .tmp 36]) rfl ?_); at_builtin; refine Kd.R_append (Kd.int .u8) (w0 := w) w.heap.size rfl (.tmp 34) (.tmp 36) 34 5 (.int .u8 0) 1 rfl Tryd.underlying34 info5 rfl (by decide) (by omega) u9 x9_1 98 [.int .u8 98] (fun _ => True) (fun _ => False) rfl rfl ?aP (fun _ hk => hk.elim) ?aF ?aO ?aB ?aS ?aL ?_; (case aP => exact rfl); (case aB => exact (by repeat (first | (with_reducible first | exact HB.out | apply below_alloc | apply pw_below_drewN | apply below_drew1) | exact HB.out))); (case aF => exact (fun _ _ => trivial)); (case aO => exact (by (with_reducible repeat (first | apply Kd.R_alloc | apply Kd.R_drewN | apply Kd.R_drew)); exact HO_9.out)); (case aS => exact (below_size (by repeat (first | (with_reducible first | exact HB.out | apply below_alloc | apply pw_below_drewN | apply below_drew1) | exact HB.out)))); (case aL => have := LMc11.out; omega); intro v202 w12 ho hb hg hat; rw [← Ny201.out] at ho; have n0_ := Aside0.mk (hb); have n1_ := Aside0.mk (ho); clear HB; clear HO_9; have HB := n0_; have HO203 := n1_; clear n0_ n1_; clear ho hb hg hat))
            go_roundg k1
            case measure => have := HK1.out; omega
            case rel => exact ⟨(y201), (wrap64 (x10_1 + 1)), (by first | rfl | (simp; done) | (simp [*]; done)), H', ⟨by have := HK1.out; omega⟩, ⟨by (with_reducible repeat (first | apply Kd.R_alloc | apply Kd.R_drewN | apply Kd.R_drew)); exact HO203.out⟩, ⟨by repeat (first | (with_reducible first | exact HB.out | apply below_alloc | apply pw_below_drewN | apply below_drew1) | exact HB.out)⟩⟩
          · rw [if_neg c11] at H
            exact absurd H (by simp)
        · rw [if_neg c10] at H
          have c10b0 : decide (t200 < t199) = false := decide_eq_false c10
          clear c10
          by_cases c13 : x9_1.length < 140737488355328
          · rw [if_pos c13] at H
            have LMc13 := Aside0.mk c13
            clear c13
            obtain ⟨y204, hy204⟩ : ∃ y_ : List Int, y_ = (x9_1 ++ [97]) := ⟨_, rfl⟩
            replace H : (spec_l07Line.l0 k1 a0 a1 a2 a3 y204 (wrap64 (x10_1 + 1))) = some r := by first | (rw [hy204]; with_reducible exact H) | (have H2_ := (Option.bind_some _ _).symm.trans H; rw [hy204]; with_reducible exact H2_) | (have H2_ := (Option.bind_some _ _).symm.trans H; with_reducible exact H2_) | with_reducible exact H | (rw [hy204]; exact H) | exact H
            have Ny204 := Aside0.mk hy204
            clear hy204
            have H' := Aside0.mk H
            clear H
            go_wp2_with (first | ((with_reducible refine gate_callee (f := 64) rfl ?_); refine goesL_ (some 25) rfl rfl Tryd.func64 (by kernel_rfl) rfl #[.int .i64 (wrap64 ((wrap64 ((wrap64 (x10_1 + 1)) * a0)) + a2)), .int .i64 a1] rfl (by (try simp only [List.map_toArray, List.map_cons, List.map_nil]); first | done | rfl | (simp only [List.length_drop, List.length_take]; rfl)) ?_; (with_reducible refine (spec_l01Floor.calls (wrap64 ((wrap64 ((wrap64 (x10_1 + 1)) * a0)) + a2)) a1 t199 _ A8.out).mono ?_); rintro e w' ⟨rfl, ⟨nd, rfl⟩⟩; refine ⟨_, rfl, ?_⟩) | ((with_reducible refine gate_callee (f := 64) rfl ?_); refine goesL_ (some 32) rfl rfl Tryd.func64 (by kernel_rfl) rfl #[.int .i64 (wrap64 ((wrap64 (x10_1 * a0)) + a2)), .int .i64 a1] rfl (by (try simp only [List.map_toArray, List.map_cons, List.map_nil]); first | done | rfl | (simp only [List.length_drop, List.length_take]; rfl)) ?_; (with_reducible refine (spec_l01Floor.calls (wrap64 ((wrap64 (x10_1 * a0)) + a2)) a1 t200 _ A9.out).mono ?_); rintro e w' ⟨rfl, ⟨nd, rfl⟩⟩; refine ⟨_, rfl, ?_⟩) | ((with_reducible refine gate_builtin (b := .append) (xs := #[.tmp 34, .tmp 36]) rfl ?_); at_builtin; refine Kd.R_append (Kd.int .u8) (w0 := w) w.heap.size rfl (.tmp 34) (.tmp 36) 34 5 (.int .u8 0) 1 rfl Tryd.underlying34 info5 rfl (by decide) (by omega) u9 x9_1 97 [.int .u8 97] (fun _ => True) (fun _ => False) rfl rfl ?aP (fun _ hk => hk.elim) ?aF ?aO ?aB ?aS ?aL ?_; (case aP => exact rfl); (case aB => exact (by repeat (first | (with_reducible first | exact HB.out | apply below_alloc | apply pw_below_drewN | apply below_drew1) | exact HB.out))); (case aF => exact (fun _ _ => trivial)); (case aO => exact (by (with_reducible repeat (first | apply Kd.R_alloc | apply Kd.R_drewN | apply Kd.R_drew)); exact HO_9.out)); (case aS => exact (below_size (by repeat (first | (with_reducible first | exact HB.out | apply below_alloc | apply pw_below_drewN | apply below_drew1) | exact HB.out)))); (case aL => have := LMc13.out; omega); intro v205 w14 ho hb hg hat; rw [← Ny204.out] at ho; have n0_ := Aside0.mk (hb); have n1_ := Aside0.mk (ho); clear HB; clear HO_9; have HB := n0_; have HO206 := n1_; clear n0_ n1_; clear ho hb hg hat))
            go_roundg k1
            case measure => have := HK1.out; omega
            case rel => exact ⟨(y204), (wrap64 (x10_1 + 1)), (by first | rfl | (simp; done) | (simp [*]; done)), H', ⟨by have := HK1.out; omega⟩, ⟨by (with_reducible repeat (first | apply Kd.R_alloc | apply Kd.R_drewN | apply Kd.R_drew)); exact HO206.out⟩, ⟨by repeat (first | (with_reducible first | exact HB.out | apply below_alloc | apply pw_below_drewN | apply below_drew1) | exact HB.out)⟩⟩
          · rw [if_neg c13] at H
            exact absurd H (by simp)
      · rw [if_neg c7] at H
        have c7b0 : decide (x10_1 < a3) = false := decide_eq_false c7
        clear c7
        obtain rfl := Option.some.inj H
        have hcv15 := own_string (P := Tryd.prog) Tryd.underlying34 Tryd.underlying5 Tryd.underlying9 (Kd.own_of_R HO_9.out)
        go_wp2
        go_ret
        exact ⟨by first | rfl | (simp [errW_none, errW_some] <;> rfl) | (simp [*, errW_none, errW_some] <;> rfl), by repeat (first | (with_reducible first | exact HB.out | apply below_alloc | apply pw_below_drewN | apply below_drew1) | exact HB.out)⟩

/-! ### spec_l00Src_one: function 48 -/
def spec_l00Src_one.f (s0_0 : List Int) (s0_1 : Int) (s0_2 : Int) (a1 : Int) : Option (Bool × Int × Int) := (spec_l00Src_pick.f s0_0 s0_1 s0_2 a1).bind fun bt207 => (some ((bt207.1 == 0), bt207.2.1, bt207.2.2))
set_option maxHeartbeats 8000000 in
set_option maxRecDepth 100000 in
theorem spec_l00Src_one.calls (g : Nat) (s0_0 : List Int) (s0_1 : Int) (s0_2 : Int) (a1 : Int) (r1 : Bool) (r2 : Int) (r3 : Int) (w0 w : World) (hI : IsS72 w0 w g s0_0 s0_1 s0_2) (hB : Below w0.heap.size w0 w) (h : spec_l00Src_one.f s0_0 s0_1 s0_2 a1 = some (r1, r2, r3)) :
    Calls Tryd.prog 48 #[.pointer (some ⟨g, 0, none⟩), .int .i64 a1] w fun e w' => e = .returned (.bool r1) ∧ IsS72 w0 w' g s0_0 r2 r3 ∧ Below w0.heap.size w0 w' ∧ KeepBut w w' g none := by
  have HI0 := Aside0.mk hI
  have HK := Aside0.mk (KeepBut.refl w g none)
  have HL := Aside0.mk hB.size
  clear hI
  have HW0 := Aside0.mk hB.size
  have HB := Aside0.mk hB
  clear hB
  have H : ((spec_l00Src_pick.f s0_0 s0_1 s0_2 a1).bind fun bt207 => (some ((bt207.1 == 0), bt207.2.1, bt207.2.2))) = some (r1, r2, r3) := h
  clear h
  replace H := Option.bind_eq_some_iff.mp H
  obtain ⟨⟨t207, t208, t209⟩, A30, H⟩ := H
  replace H : (some ((t207 == 0), t208, t209)) = some (r1, r2, r3) := H
  have A3 := Aside0.mk A30
  clear A30
  simp only [Option.some.injEq, Prod.mk.injEq] at H
  obtain ⟨rfl, rfl, rfl⟩ := H
  go_enter Tryd.func48, Tryd.ntmps48
  go_wp2_with (first | ((with_reducible refine gate_callee (f := 46) rfl ?_); refine goesL_ (some 7) rfl rfl Tryd.func46 (by kernel_rfl) rfl #[.pointer (some ⟨g, 0, none⟩), .int .i64 a1] rfl (by (try simp only [List.map_toArray, List.map_cons, List.map_nil]); first | done | rfl | (simp only [List.length_drop, List.length_take]; rfl)) ?_; (with_reducible refine (spec_l00Src_pick.calls g s0_0 s0_1 s0_2 a1 t207 t208 t209 w0 _ ?side1 ?side2 A3.out).mono ?_); (case side1 => repeat (first | (with_reducible first | exact HI0.out | apply IsS72.alloc | apply IsS72.drewN | apply IsS72.drew | apply IsS72.set_1 | apply IsS72.set_2) | exact HI0.out)); (case side2 => repeat (first | (with_reducible first | exact HB.out | apply below_alloc | apply pw_below_drewN | apply below_drew1 | refine below_set ?_ (IsS72.ge HI0.out)) | exact HB.out)); rintro e w4 ⟨rfl, hi, hb, hk⟩; refine ⟨_, rfl, ?_⟩; have n0_ := Aside0.mk (KeepBut.trans (by repeat (first | (with_reducible first | exact HK.out | apply KeepBut.set_ | apply keep_drewN | apply keep_drew | apply keep_alloc) | exact HK.out)) hk (.inl rfl)); have n1_ := Aside0.mk (hb); have n2_ := Aside0.mk (hi); clear HK; clear HB; clear HI0; have HK := n0_; have HB := n1_; have HI0 := n2_; clear n0_ n1_ n2_; (try clear hb); (try clear hb2); (try clear hk); (try clear hi)))
  go_ret
  exact ⟨by first | rfl | (simp [errW_none, errW_some] <;> rfl) | (simp [*, errW_none, errW_some] <;> rfl), by repeat (first | (with_reducible first | exact HI0.out | apply IsS72.alloc | apply IsS72.drewN | apply IsS72.drew | apply IsS72.set_1 | apply IsS72.set_2) | exact HI0.out), by repeat (first | (with_reducible first | exact HB.out | apply below_alloc | apply pw_below_drewN | apply below_drew1 | refine below_set ?_ (IsS72.ge HI0.out)) | exact HB.out), by repeat (first | (with_reducible first | exact HK.out | apply KeepBut.set_ | apply keep_drewN | apply keep_drew | apply keep_alloc) | exact HK.out)⟩

/-! ### spec_B10Word: function 27 -/
-- given by hand
/-- Bytes that a string was turned into: their block bears a mark behind its end. -/
def spec_B10Word.FB (W : World) (g n m : Nat) (xs : List Int) : Prop := ∃ cur : Array Value, W.heap[g]? = some (.cells cur 5 (m, m + 1)) ∧ cur.size = m ∧ xs.length = n ∧ n ≤ m ∧ ∀ j, j < n → cur[j]? = some (.int .u8 (xs.getD j 0))
theorem spec_B10Word.FB.keep {W W1 : World} {g g2 n m : Nat} {xs : List Int} (h : spec_B10Word.FB W g n m xs) (hk : KeepBut W W1 g2 none) (hne : g ≠ g2) : spec_B10Word.FB W1 g n m xs := by
  obtain ⟨cur, h1, h2⟩ := h
  exact ⟨cur, hk.blk h1 hne (by simp), h2⟩
theorem spec_B10Word.FB.cell {W : World} {g n m : Nat} {xs : List Int} (h : spec_B10Word.FB W g n m xs) {i : Int} (h0 : 0 ≤ i) (h1 : i < n) : W.cell? ⟨g, i.toNat, none⟩ = some (.int .u8 (xs.getD i.toNat 0)) := by
  obtain ⟨cur, e1, _, _, _, e5⟩ := h
  rw [cell_of_row W g i.toNat cur 5 _ e1]
  exact e5 i.toNat (by omega)
theorem spec_B10Word.FB.free {W : World} {g n m : Nat} {xs : List Int} (h : spec_B10Word.FB W g n m xs) {i : Int} (h0 : 0 ≤ i) (h1 : i < n) : W.frozen? ⟨g, i.toNat, none⟩ = false := by
  obtain ⟨cur, e1, e2, e3, e4, _⟩ := h
  simp only [World.frozen?, e1]
  simp
  omega
theorem spec_B10Word.FB.set {W : World} {g n m : Nat} {xs : List Int} (h : spec_B10Word.FB W g n m xs) (i : Nat) (v : Int) : spec_B10Word.FB (W.setCell ⟨g, i, none⟩ (.int .u8 v)) g n m (xs.set i v) := by
  obtain ⟨cur, e1, e2, e3, e4, e5⟩ := h
  have hg : g < W.heap.size := (Array.getElem?_eq_some_iff.1 e1).1
  refine ⟨cur.setIfInBounds i (.int .u8 v), ?_, by simp [e2], by simp [e3], e4, fun j hj => ?_⟩
  · simp [World.setCell, Array.getElem?_modify, e1]
  · have hjm : j < cur.size := by omega
    by_cases c : i = j
    · subst c
      rw [Array.getElem?_setIfInBounds_self_of_lt hjm, List.getD_eq_getElem?_getD, List.getElem?_set_self (by omega)]
      rfl
    · rw [Array.getElem?_setIfInBounds_ne c, e5 j hj, List.getD_eq_getElem?_getD, List.getD_eq_getElem?_getD, List.getElem?_set_ne c]
theorem spec_B10Word.FB.conv {P : Program} {W : World} {g n m : Nat} {xs : List Int} (hs : P.underlying 34 = some (.slice 5)) (he : P.underlying 5 = some (.int .u8)) (hd : P.underlying 9 = some .string) (h : spec_B10Word.FB W g n m xs) (c : Nat) : (convert 34 9 (.slice (some ⟨g, 0, none⟩) n c)).run P W = .ok (.string (strOfNums xs)) W := by
  obtain ⟨cur, e1, e2, e3, e4, e5⟩ := h
  refine run_convert_bytes_arg W 34 5 hs he g 0 n c xs e3 (fun i hi => ?_) 9 hd
  rw [Nat.zero_add, cell_of_row W g i cur 5 _ e1]
  exact e5 i hi
theorem spec_B10Word.conv_event {P : Program} {ops : Array Oper} {rest : List Oper} {o : Oper} {a : Act} {Q : Exit → Act → World → Prop} {W : World} {t : ByteArray} (hgd : o.guard = none)
    (hr : (execOp a.eval o).run P W = .ok (.value (.slice (some ⟨W.heap.size, 0, none⟩) t.size (grownCap W t.size 0 5))) (W.drew.alloc (.cells (bytesRow t (grownCap W t.size 0 5)) 5 ((bytesRow t (grownCap W t.size 0 5)).size, (bytesRow t (grownCap W t.size 0 5)).size + 1))))
    (h : ∀ g c m w1, spec_B10Word.FB w1 g t.size m (bytesOf t) → Below W.heap.size W w1 → W.heap.size ≤ g → wpList P ops Q rest (a.put o.dst (.slice (some ⟨g, 0, none⟩) t.size c)) w1) : wpList P ops Q (o :: rest) a W := by
  refine Kd.event_run hgd hr (h W.heap.size _ (bytesRow t (grownCap W t.size 0 5)).size _ ?_ (below_alloc (below_drew (Below.refl _ _)) _) (Nat.le_refl _))
  have ht : t.data.size = t.size := rfl
  refine ⟨bytesRow t (grownCap W t.size 0 5), ?_, rfl, bytesOf_length t, by simp [bytesRow], fun j hj => ?_⟩
  · show (W.heap.push _)[W.heap.size]? = _
    simp
  · rw [bytesRow_at t _ j (by omega)]
    have hj' : j < t.data.toList.length := by rw [Array.length_toList]; omega
    rw [bytesOf, List.getD_eq_getElem?_getD, List.getElem?_map, List.getElem?_eq_getElem hj']
    rfl
def spec_B10Word.f (k : Nat) (l0 : List Int) : Option (ByteArray) := (spec_l00From.f l0).bind fun bt210 => ((spec_l00Src_pick.f bt210.1 bt210.2.1 bt210.2.2 20).bind fun bt214 => ((spec_l00Src_pick.f bt210.1 bt214.2.1 bt214.2.2 (wrap64 ((wrap64 (1 + bt214.1)) + 1))).bind fun bt217 => ((spec_l00Src_pick.f bt210.1 bt217.2.1 bt217.2.2 (wrap64 (1 + bt214.1))).bind fun bt220 => ((spec_l00Src_pick.f bt210.1 bt220.2.1 bt220.2.2 23).bind fun bt223 => ((spec_l07Line.f k bt217.1 (wrap64 (1 + bt214.1)) bt220.1 (wrap64 (1 + bt223.1))).bind fun t226 => ((some ((bytesOf t226) : List Int)).bind fun y227 => ((spec_l00Src_one.f bt210.1 bt223.2.1 bt223.2.2 3).bind fun bt230 => (if bt230.1 = true then ((spec_l00Src_pick.f bt210.1 bt230.2.1 bt230.2.2 (y227.length : Int)).bind fun bt233 => ((spec_l00Src_pick.f bt210.1 bt233.2.1 bt233.2.2 2).bind fun bt236 => (if 0 ≤ bt233.1 then (if bt233.1 < (y227.length : Int) then (some (strOfNums (y227.set (bt233.1 : Int).toNat ((wrap64 (97 + bt236.1)) % 256)))) else (none)) else (none)))) else (some (strOfNums y227))))))))))
theorem spec_B10Word.mono : ∀ a0 k, LeO (spec_B10Word.f k a0) (spec_B10Word.f (k + 1) a0) := by
  intro a0 k
  unfold spec_B10Word.f
  repeat' first
      | (with_reducible exact spec_l07Line.mono _ _ _ _ _)
      | (with_reducible exact LeO.refl _)
      | (with_reducible exact LeO.none _)
      | (with_reducible refine LeO.ite ?_ ?_)
      | (with_reducible refine LeO.bind ?_ (fun _ => ?_))
      | exact spec_l07Line.mono _ _ _ _ _
      | exact LeO.none _
      | refine LeO.ite ?_ ?_
      | refine LeO.bind ?_ (fun _ => ?_)
set_option maxHeartbeats 8000000 in
set_option maxRecDepth 100000 in
theorem spec_B10Word.calls (k : Nat) (A0 : Option Addr) (c0 : Nat) (l0 : List Int) (r : ByteArray) (w : World) (hr0 : Kd.C (Kd.int .u8) w A0 l0.length l0) (hc0 : l0.length ≤ c0) (h : spec_B10Word.f k l0 = some r) :
    Calls Tryd.prog 27 #[.slice A0 l0.length c0] w fun e w' => e = .returned (.string r) ∧ Below w.heap.size w w' := by
  have HR0 := Aside0.mk hr0
  have HC0 := Aside0.mk hc0
  clear hr0 hc0
  have HB := Aside0.mk (Below.refl w.heap.size w)
  have H : ((spec_l00From.f l0).bind fun bt210 => ((spec_l00Src_pick.f bt210.1 bt210.2.1 bt210.2.2 20).bind fun bt214 => ((spec_l00Src_pick.f bt210.1 bt214.2.1 bt214.2.2 (wrap64 ((wrap64 (1 + bt214.1)) + 1))).bind fun bt217 => ((spec_l00Src_pick.f bt210.1 bt217.2.1 bt217.2.2 (wrap64 (1 + bt214.1))).bind fun bt220 => ((spec_l00Src_pick.f bt210.1 bt220.2.1 bt220.2.2 23).bind fun bt223 => ((spec_l07Line.f k bt217.1 (wrap64 (1 + bt214.1)) bt220.1 (wrap64 (1 + bt223.1))).bind fun t226 => ((some ((bytesOf t226) : List Int)).bind fun y227 => ((spec_l00Src_one.f bt210.1 bt223.2.1 bt223.2.2 3).bind fun bt230 => (if bt230.1 = true then ((spec_l00Src_pick.f bt210.1 bt230.2.1 bt230.2.2 (y227.length : Int)).bind fun bt233 => ((spec_l00Src_pick.f bt210.1 bt233.2.1 bt233.2.2 2).bind fun bt236 => (if 0 ≤ bt233.1 then (if bt233.1 < (y227.length : Int) then (some (strOfNums (y227.set (bt233.1 : Int).toNat ((wrap64 (97 + bt236.1)) % 256)))) else (none)) else (none)))) else (some (strOfNums y227))))))))))) = some r := h
  clear h
  replace H := Option.bind_eq_some_iff.mp H
  obtain ⟨⟨t210, t211, t212⟩, A20, H⟩ := H
  replace H : ((spec_l00Src_pick.f t210 t211 t212 20).bind fun bt214 => ((spec_l00Src_pick.f t210 bt214.2.1 bt214.2.2 (wrap64 ((wrap64 (1 + bt214.1)) + 1))).bind fun bt217 => ((spec_l00Src_pick.f t210 bt217.2.1 bt217.2.2 (wrap64 (1 + bt214.1))).bind fun bt220 => ((spec_l00Src_pick.f t210 bt220.2.1 bt220.2.2 23).bind fun bt223 => ((spec_l07Line.f k bt217.1 (wrap64 (1 + bt214.1)) bt220.1 (wrap64 (1 + bt223.1))).bind fun t226 => ((some ((bytesOf t226) : List Int)).bind fun y227 => ((spec_l00Src_one.f t210 bt223.2.1 bt223.2.2 3).bind fun bt230 => (if bt230.1 = true then ((spec_l00Src_pick.f t210 bt230.2.1 bt230.2.2 (y227.length : Int)).bind fun bt233 => ((spec_l00Src_pick.f t210 bt233.2.1 bt233.2.2 2).bind fun bt236 => (if 0 ≤ bt233.1 then (if bt233.1 < (y227.length : Int) then (some (strOfNums (y227.set (bt233.1 : Int).toNat ((wrap64 (97 + bt236.1)) % 256)))) else (none)) else (none)))) else (some (strOfNums y227)))))))))) = some r := H
  have A2 := Aside0.mk A20
  clear A20
  replace H := Option.bind_eq_some_iff.mp H
  obtain ⟨⟨t214, t215, t216⟩, A30, H⟩ := H
  replace H : ((spec_l00Src_pick.f t210 t215 t216 (wrap64 ((wrap64 (1 + t214)) + 1))).bind fun bt217 => ((spec_l00Src_pick.f t210 bt217.2.1 bt217.2.2 (wrap64 (1 + t214))).bind fun bt220 => ((spec_l00Src_pick.f t210 bt220.2.1 bt220.2.2 23).bind fun bt223 => ((spec_l07Line.f k bt217.1 (wrap64 (1 + t214)) bt220.1 (wrap64 (1 + bt223.1))).bind fun t226 => ((some ((bytesOf t226) : List Int)).bind fun y227 => ((spec_l00Src_one.f t210 bt223.2.1 bt223.2.2 3).bind fun bt230 => (if bt230.1 = true then ((spec_l00Src_pick.f t210 bt230.2.1 bt230.2.2 (y227.length : Int)).bind fun bt233 => ((spec_l00Src_pick.f t210 bt233.2.1 bt233.2.2 2).bind fun bt236 => (if 0 ≤ bt233.1 then (if bt233.1 < (y227.length : Int) then (some (strOfNums (y227.set (bt233.1 : Int).toNat ((wrap64 (97 + bt236.1)) % 256)))) else (none)) else (none)))) else (some (strOfNums y227))))))))) = some r := H
  have A3 := Aside0.mk A30
  clear A30
  replace H := Option.bind_eq_some_iff.mp H
  obtain ⟨⟨t217, t218, t219⟩, A40, H⟩ := H
  replace H : ((spec_l00Src_pick.f t210 t218 t219 (wrap64 (1 + t214))).bind fun bt220 => ((spec_l00Src_pick.f t210 bt220.2.1 bt220.2.2 23).bind fun bt223 => ((spec_l07Line.f k t217 (wrap64 (1 + t214)) bt220.1 (wrap64 (1 + bt223.1))).bind fun t226 => ((some ((bytesOf t226) : List Int)).bind fun y227 => ((spec_l00Src_one.f t210 bt223.2.1 bt223.2.2 3).bind fun bt230 => (if bt230.1 = true then ((spec_l00Src_pick.f t210 bt230.2.1 bt230.2.2 (y227.length : Int)).bind fun bt233 => ((spec_l00Src_pick.f t210 bt233.2.1 bt233.2.2 2).bind fun bt236 => (if 0 ≤ bt233.1 then (if bt233.1 < (y227.length : Int) then (some (strOfNums (y227.set (bt233.1 : Int).toNat ((wrap64 (97 + bt236.1)) % 256)))) else (none)) else (none)))) else (some (strOfNums y227)))))))) = some r := H
  have A4 := Aside0.mk A40
  clear A40
  replace H := Option.bind_eq_some_iff.mp H
  obtain ⟨⟨t220, t221, t222⟩, A50, H⟩ := H
  replace H : ((spec_l00Src_pick.f t210 t221 t222 23).bind fun bt223 => ((spec_l07Line.f k t217 (wrap64 (1 + t214)) t220 (wrap64 (1 + bt223.1))).bind fun t226 => ((some ((bytesOf t226) : List Int)).bind fun y227 => ((spec_l00Src_one.f t210 bt223.2.1 bt223.2.2 3).bind fun bt230 => (if bt230.1 = true then ((spec_l00Src_pick.f t210 bt230.2.1 bt230.2.2 (y227.length : Int)).bind fun bt233 => ((spec_l00Src_pick.f t210 bt233.2.1 bt233.2.2 2).bind fun bt236 => (if 0 ≤ bt233.1 then (if bt233.1 < (y227.length : Int) then (some (strOfNums (y227.set (bt233.1 : Int).toNat ((wrap64 (97 + bt236.1)) % 256)))) else (none)) else (none)))) else (some (strOfNums y227))))))) = some r := H
  have A5 := Aside0.mk A50
  clear A50
  replace H := Option.bind_eq_some_iff.mp H
  obtain ⟨⟨t223, t224, t225⟩, A60, H⟩ := H
  replace H : ((spec_l07Line.f k t217 (wrap64 (1 + t214)) t220 (wrap64 (1 + t223))).bind fun t226 => ((some ((bytesOf t226) : List Int)).bind fun y227 => ((spec_l00Src_one.f t210 t224 t225 3).bind fun bt230 => (if bt230.1 = true then ((spec_l00Src_pick.f t210 bt230.2.1 bt230.2.2 (y227.length : Int)).bind fun bt233 => ((spec_l00Src_pick.f t210 bt233.2.1 bt233.2.2 2).bind fun bt236 => (if 0 ≤ bt233.1 then (if bt233.1 < (y227.length : Int) then (some (strOfNums (y227.set (bt233.1 : Int).toNat ((wrap64 (97 + bt236.1)) % 256)))) else (none)) else (none)))) else (some (strOfNums y227)))))) = some r := H
  have A6 := Aside0.mk A60
  clear A60
  replace H := Option.bind_eq_some_iff.mp H
  obtain ⟨t226, A70, H⟩ := H
  replace H : ((some ((bytesOf t226) : List Int)).bind fun y227 => ((spec_l00Src_one.f t210 t224 t225 3).bind fun bt230 => (if bt230.1 = true then ((spec_l00Src_pick.f t210 bt230.2.1 bt230.2.2 (y227.length : Int)).bind fun bt233 => ((spec_l00Src_pick.f t210 bt233.2.1 bt233.2.2 2).bind fun bt236 => (if 0 ≤ bt233.1 then (if bt233.1 < (y227.length : Int) then (some (strOfNums (y227.set (bt233.1 : Int).toNat ((wrap64 (97 + bt236.1)) % 256)))) else (none)) else (none)))) else (some (strOfNums y227))))) = some r := H
  have A7 := Aside0.mk A70
  clear A70
  obtain ⟨y227, hy227⟩ : ∃ y_ : List Int, y_ = (bytesOf t226) := ⟨_, rfl⟩
  replace H : ((spec_l00Src_one.f t210 t224 t225 3).bind fun bt230 => (if bt230.1 = true then ((spec_l00Src_pick.f t210 bt230.2.1 bt230.2.2 (y227.length : Int)).bind fun bt233 => ((spec_l00Src_pick.f t210 bt233.2.1 bt233.2.2 2).bind fun bt236 => (if 0 ≤ bt233.1 then (if bt233.1 < (y227.length : Int) then (some (strOfNums (y227.set (bt233.1 : Int).toNat ((wrap64 (97 + bt236.1)) % 256)))) else (none)) else (none)))) else (some (strOfNums y227)))) = some r := by first | (rw [hy227]; with_reducible exact H) | (have H2_ := (Option.bind_some _ _).symm.trans H; rw [hy227]; with_reducible exact H2_) | (have H2_ := (Option.bind_some _ _).symm.trans H; with_reducible exact H2_) | with_reducible exact H | (rw [hy227]; exact H) | exact H
  have Ny227 := Aside0.mk hy227
  clear hy227
  replace H := Option.bind_eq_some_iff.mp H
  obtain ⟨⟨t230, t231, t232⟩, A90, H⟩ := H
  replace H : (if t230 = true then ((spec_l00Src_pick.f t210 t231 t232 (y227.length : Int)).bind fun bt233 => ((spec_l00Src_pick.f t210 bt233.2.1 bt233.2.2 2).bind fun bt236 => (if 0 ≤ bt233.1 then (if bt233.1 < (y227.length : Int) then (some (strOfNums (y227.set (bt233.1 : Int).toNat ((wrap64 (97 + bt236.1)) % 256)))) else (none)) else (none)))) else (some (strOfNums y227))) = some r := H
  have A9 := Aside0.mk A90
  clear A90
  by_cases c10 : t230 = true
  · subst c10
    have H1 : ((spec_l00Src_pick.f t210 t231 t232 (y227.length : Int)).bind fun bt233 => ((spec_l00Src_pick.f t210 bt233.2.1 bt233.2.2 2).bind fun bt236 => (if 0 ≤ bt233.1 then (if bt233.1 < (y227.length : Int) then (some (strOfNums (y227.set (bt233.1 : Int).toNat ((wrap64 (97 + bt236.1)) % 256)))) else (none)) else (none)))) = some r := by rw [if_pos rfl] at H; exact H
    clear H
    have H := H1
    clear H1
    replace H := Option.bind_eq_some_iff.mp H
    obtain ⟨⟨t233, t234, t235⟩, A110, H⟩ := H
    replace H : ((spec_l00Src_pick.f t210 t234 t235 2).bind fun bt236 => (if 0 ≤ t233 then (if t233 < (y227.length : Int) then (some (strOfNums (y227.set (t233 : Int).toNat ((wrap64 (97 + bt236.1)) % 256)))) else (none)) else (none))) = some r := H
    have A11 := Aside0.mk A110
    clear A110
    replace H := Option.bind_eq_some_iff.mp H
    obtain ⟨⟨t236, t237, t238⟩, A120, H⟩ := H
    replace H : (if 0 ≤ t233 then (if t233 < (y227.length : Int) then (some (strOfNums (y227.set (t233 : Int).toNat ((wrap64 (97 + t236)) % 256)))) else (none)) else (none)) = some r := H
    have A12 := Aside0.mk A120
    clear A120
    by_cases c13 : 0 ≤ t233
    · rw [if_pos c13] at H
      have c13b0 : decide (0 ≤ t233) = true := decide_eq_true c13
      clear c13
      by_cases c14 : t233 < (y227.length : Int)
      · rw [if_pos c14] at H
        have c14b0 : decide (t233 < (y227.length : Int)) = true := decide_eq_true c14
        clear c14
        obtain ⟨y239, hy239⟩ : ∃ y_ : List Int, y_ = (y227.set (t233 : Int).toNat ((wrap64 (97 + t236)) % 256)) := ⟨_, rfl⟩
        replace H : (some (strOfNums y239)) = some r := by first | (rw [hy239]; with_reducible exact H) | (have H2_ := (Option.bind_some _ _).symm.trans H; rw [hy239]; with_reducible exact H2_) | (have H2_ := (Option.bind_some _ _).symm.trans H; with_reducible exact H2_) | with_reducible exact H | (rw [hy239]; exact H) | exact H
        have Ny239 := Aside0.mk hy239
        clear hy239
        obtain rfl := Option.some.inj H
        have hcv0_ := fun W_ => run_bytes_of_string (P := Tryd.prog) W_ 9 34 5 t226 Tryd.underlying9 Tryd.underlying34 Tryd.underlying5
        go_enter Tryd.func27, Tryd.ntmps27
        go_wp2_with (first | ((with_reducible refine gate_callee (f := 45) rfl ?_); refine goesL_ (some 9) rfl rfl Tryd.func45 (by kernel_rfl) rfl #[.slice A0 l0.length c0] rfl (by (try simp only [List.map_toArray, List.map_cons, List.map_nil]); first | done | rfl | (simp only [List.length_drop, List.length_take]; rfl)) ?_; (with_reducible refine (spec_l00From.calls _ _ l0 t210 t211 t212 w _ ?side1 ?side2 ?side3 A2.out).mono ?_); (case side1 => repeat (first | (with_reducible first | exact HB.out | apply below_alloc | apply pw_below_drewN | apply below_drew1) | exact HB.out)); (case side2 => exact HR0.out); (case side3 => exact HC0.out); rintro e w16 ⟨g213, rfl, hi, hb, hb2⟩; refine ⟨_, rfl, ?_⟩; have n0_ := Aside0.mk (hb); have n1_ := Aside0.mk (hi); clear HB; have HB := n0_; have HI213 := n1_; clear n0_ n1_; (try clear hb); (try clear hb2); (try clear hk); (try clear hi)) | ((with_reducible refine gate_callee (f := 46) rfl ?_); refine goesL_ (some 11) rfl rfl Tryd.func46 (by kernel_rfl) rfl #[.pointer (some ⟨g213, 0, none⟩), .int .i64 20] rfl (by (try simp only [List.map_toArray, List.map_cons, List.map_nil]); first | done | rfl | (simp only [List.length_drop, List.length_take]; rfl)) ?_; (with_reducible refine (spec_l00Src_pick.calls g213 t210 t211 t212 20 t214 t215 t216 w _ ?side1 ?side2 A3.out).mono ?_); (case side1 => repeat (first | (with_reducible first | exact HI213.out | apply IsS72.alloc | apply IsS72.drewN | apply IsS72.drew | apply IsS72.set_1 | apply IsS72.set_2) | exact HI213.out)); (case side2 => repeat (first | (with_reducible first | exact HB.out | apply below_alloc | apply pw_below_drewN | apply below_drew1 | refine below_set ?_ (IsS72.ge HI213.out)) | exact HB.out)); rintro e w17 ⟨rfl, hi, hb, hk⟩; refine ⟨_, rfl, ?_⟩; have n0_ := Aside0.mk (hb); have n1_ := Aside0.mk (hi); clear HB; clear HI213; have HB := n0_; have HI213 := n1_; clear n0_ n1_; (try clear hb); (try clear hb2); (try clear hk); (try clear hi)) | ((with_reducible refine gate_callee (f := 46) rfl ?_); refine goesL_ (some 16) rfl rfl Tryd.func46 (by kernel_rfl) rfl #[.pointer (some ⟨g213, 0, none⟩), .int .i64 (wrap64 ((wrap64 (1 + t214)) + 1))] rfl (by (try simp only [List.map_toArray, List.map_cons, List.map_nil]); first | done | rfl | (simp only [List.length_drop, List.length_take]; rfl)) ?_; (with_reducible refine (spec_l00Src_pick.calls g213 t210 t215 t216 (wrap64 ((wrap64 (1 + t214)) + 1)) t217 t218 t219 w _ ?side1 ?side2 A4.out).mono ?_); (case side1 => repeat (first | (with_reducible first | exact HI213.out | apply IsS72.alloc | apply IsS72.drewN | apply IsS72.drew | apply IsS72.set_1 | apply IsS72.set_2) | exact HI213.out)); (case side2 => repeat (first | (with_reducible first | exact HB.out | apply below_alloc | apply pw_below_drewN | apply below_drew1 | refine below_set ?_ (IsS72.ge HI213.out)) | exact HB.out)); rintro e w18 ⟨rfl, hi, hb, hk⟩; refine ⟨_, rfl, ?_⟩; have n0_ := Aside0.mk (hb); have n1_ := Aside0.mk (hi); clear HB; clear HI213; have HB := n0_; have HI213 := n1_; clear n0_ n1_; (try clear hb); (try clear hb2); (try clear hk); (try clear hi)) | ((with_reducible refine gate_callee (f := 46) rfl ?_); refine goesL_ (some 19) rfl rfl Tryd.func46 (by kernel_rfl) rfl #[.pointer (some ⟨g213, 0, none⟩), .int .i64 (wrap64 (1 + t214))] rfl (by (try simp only [List.map_toArray, List.map_cons, List.map_nil]); first | done | rfl | (simp only [List.length_drop, List.length_take]; rfl)) ?_; (with_reducible refine (spec_l00Src_pick.calls g213 t210 t218 t219 (wrap64 (1 + t214)) t220 t221 t222 w _ ?side1 ?side2 A5.out).mono ?_); (case side1 => repeat (first | (with_reducible first | exact HI213.out | apply IsS72.alloc | apply IsS72.drewN | apply IsS72.drew | apply IsS72.set_1 | apply IsS72.set_2) | exact HI213.out)); (case side2 => repeat (first | (with_reducible first | exact HB.out | apply below_alloc | apply pw_below_drewN | apply below_drew1 | refine below_set ?_ (IsS72.ge HI213.out)) | exact HB.out)); rintro e w19 ⟨rfl, hi, hb, hk⟩; refine ⟨_, rfl, ?_⟩; have n0_ := Aside0.mk (hb); have n1_ := Aside0.mk (hi); clear HB; clear HI213; have HB := n0_; have HI213 := n1_; clear n0_ n1_; (try clear hb); (try clear hb2); (try clear hk); (try clear hi)) | ((with_reducible refine gate_callee (f := 46) rfl ?_); refine goesL_ (some 24) rfl rfl Tryd.func46 (by kernel_rfl) rfl #[.pointer (some ⟨g213, 0, none⟩), .int .i64 23] rfl (by (try simp only [List.map_toArray, List.map_cons, List.map_nil]); first | done | rfl | (simp only [List.length_drop, List.length_take]; rfl)) ?_; (with_reducible refine (spec_l00Src_pick.calls g213 t210 t221 t222 23 t223 t224 t225 w _ ?side1 ?side2 A6.out).mono ?_); (case side1 => repeat (first | (with_reducible first | exact HI213.out | apply IsS72.alloc | apply IsS72.drewN | apply IsS72.drew | apply IsS72.set_1 | apply IsS72.set_2) | exact HI213.out)); (case side2 => repeat (first | (with_reducible first | exact HB.out | apply below_alloc | apply pw_below_drewN | apply below_drew1 | refine below_set ?_ (IsS72.ge HI213.out)) | exact HB.out)); rintro e w20 ⟨rfl, hi, hb, hk⟩; refine ⟨_, rfl, ?_⟩; have n0_ := Aside0.mk (hb); have n1_ := Aside0.mk (hi); clear HB; clear HI213; have HB := n0_; have HI213 := n1_; clear n0_ n1_; (try clear hb); (try clear hb2); (try clear hk); (try clear hi)) | ((with_reducible refine gate_callee (f := 47) rfl ?_); refine goesL_ (some 26) rfl rfl Tryd.func47 (by kernel_rfl) rfl #[.int .i64 t217, .int .i64 (wrap64 (1 + t214)), .int .i64 t220, .int .i64 (wrap64 (1 + t223))] rfl (by (try simp only [List.map_toArray, List.map_cons, List.map_nil]); first | done | rfl | (simp only [List.length_drop, List.length_take]; rfl)) ?_; (with_reducible refine (spec_l07Line.calls k t217 (wrap64 (1 + t214)) t220 (wrap64 (1 + t223)) t226 _ A7.out).mono ?_); rintro e w21 ⟨rfl, hb⟩; refine ⟨_, rfl, ?_⟩; have n0_ := Aside0.mk (IsS72.below (by repeat (first | (with_reducible first | exact HI213.out | apply IsS72.alloc | apply IsS72.drewN | apply IsS72.drew | apply IsS72.set_1 | apply IsS72.set_2) | exact HI213.out)) hb); have n1_ := Aside0.mk (below_step (by repeat (first | (with_reducible first | exact HB.out | apply below_alloc | apply pw_below_drewN | apply below_drew1 | refine below_set ?_ (IsS72.ge HI213.out)) | exact HB.out)) hb); clear HI213; clear HB; have HI213 := n0_; have HB := n1_; clear n0_ n1_; (try clear hb); (try clear hb2); (try clear hk); (try clear hi)) | ((with_reducible refine gate_dst (N := 27) rfl ?_); refine spec_B10Word.conv_event (P := Tryd.prog) (t := t226) ?hg ?hr ?_; (case hg => rfl); (case hr => (first | (go_simp; done) | (go_simp; exact hcv0_ _) | (go_simp; rfl))); intro gb27_ cb27_ mb27_ w22 hfb_ hb_ hn_; have el_ : t226.size = y227.length := (by rw [Ny227.out, bytesOf_length]); rw [el_] at hfb_ ⊢; clear el_; rw [← Ny227.out] at hfb_; have n0_ := Aside0.mk (IsS72.below (by repeat (first | (with_reducible first | exact HI213.out | apply IsS72.alloc | apply IsS72.drewN | apply IsS72.drew | apply IsS72.set_1 | apply IsS72.set_2) | exact HI213.out)) hb_); have n1_ := Aside0.mk (below_step (by repeat (first | (with_reducible first | exact HB.out | apply below_alloc | apply pw_below_drewN | apply below_drew1 | refine below_set ?_ (IsS72.ge HI213.out)) | exact HB.out)) hb_); have n2_ := Aside0.mk hfb_; have n3_ := Aside0.mk (show gb27_ ≠ g213 from fun e_ => Nat.lt_irrefl _ (Nat.lt_of_lt_of_le (IsS72.lt HI213.out) (e_ ▸ hn_))); have n4_ := Aside0.mk (show w.heap.size ≤ gb27_ from Nat.le_trans (below_size (by repeat (first | (with_reducible first | exact HB.out | apply below_alloc | apply pw_below_drewN | apply below_drew1 | refine below_set ?_ (IsS72.ge HI213.out)) | exact HB.out))) hn_); clear HI213; clear HB; have HI213 := n0_; have HB := n1_; have HO229 := n2_; have NE27 := n3_; have GE27 := n4_; clear n0_ n1_ n2_ n3_ n4_; clear hfb_ hb_ hn_) | ((with_reducible refine gate_callee (f := 48) rfl ?_); refine goesL_ (some 29) rfl rfl Tryd.func48 (by kernel_rfl) rfl #[.pointer (some ⟨g213, 0, none⟩), .int .i64 3] rfl (by (try simp only [List.map_toArray, List.map_cons, List.map_nil]); first | done | rfl | (simp only [List.length_drop, List.length_take]; rfl)) ?_; (with_reducible refine (spec_l00Src_one.calls g213 t210 t224 t225 3 true t231 t232 w _ ?side1 ?side2 A9.out).mono ?_); (case side1 => repeat (first | (with_reducible first | exact HI213.out | apply IsS72.alloc | apply IsS72.drewN | apply IsS72.drew | apply IsS72.set_1 | apply IsS72.set_2) | exact HI213.out)); (case side2 => repeat (first | (with_reducible first | exact HB.out | apply below_alloc | apply pw_below_drewN | apply below_drew1 | refine below_set ?_ (IsS72.ge HI213.out)) | exact HB.out)); rintro e w23 ⟨rfl, hi, hb, hk⟩; refine ⟨_, rfl, ?_⟩; have n0_ := Aside0.mk (spec_B10Word.FB.keep HO229.out hk NE27.out); have n1_ := Aside0.mk (hb); have n2_ := Aside0.mk (hi); clear HO229; clear HB; clear HI213; have HO229 := n0_; have HB := n1_; have HI213 := n2_; clear n0_ n1_ n2_; (try clear hb); (try clear hb2); (try clear hk); (try clear hi)) | ((with_reducible refine gate_callee (f := 46) rfl ?_); refine goesL_ (some 34) rfl rfl Tryd.func46 (by kernel_rfl) rfl #[.pointer (some ⟨g213, 0, none⟩), .int .i64 (y227.length : Int)] rfl (by (try simp only [List.map_toArray, List.map_cons, List.map_nil]); first | done | rfl | (simp only [List.length_drop, List.length_take]; rfl)) ?_; (with_reducible refine (spec_l00Src_pick.calls g213 t210 t231 t232 (y227.length : Int) t233 t234 t235 w _ ?side1 ?side2 A11.out).mono ?_); (case side1 => repeat (first | (with_reducible first | exact HI213.out | apply IsS72.alloc | apply IsS72.drewN | apply IsS72.drew | apply IsS72.set_1 | apply IsS72.set_2) | exact HI213.out)); (case side2 => repeat (first | (with_reducible first | exact HB.out | apply below_alloc | apply pw_below_drewN | apply below_drew1 | refine below_set ?_ (IsS72.ge HI213.out)) | exact HB.out)); rintro e w25 ⟨rfl, hi, hb, hk⟩; refine ⟨_, rfl, ?_⟩; have n0_ := Aside0.mk (spec_B10Word.FB.keep HO229.out hk NE27.out); have n1_ := Aside0.mk (hb); have n2_ := Aside0.mk (hi); clear HO229; clear HB; clear HI213; have HO229 := n0_; have HB := n1_; have HI213 := n2_; clear n0_ n1_ n2_; (try clear hb); (try clear hb2); (try clear hk); (try clear hi)) | ((with_reducible refine gate_callee (f := 46) rfl ?_); refine goesL_ (some 36) rfl rfl Tryd.func46 (by kernel_rfl) rfl #[.pointer (some ⟨g213, 0, none⟩), .int .i64 2] rfl (by (try simp only [List.map_toArray, List.map_cons, List.map_nil]); first | done | rfl | (simp only [List.length_drop, List.length_take]; rfl)) ?_; (with_reducible refine (spec_l00Src_pick.calls g213 t210 t234 t235 2 t236 t237 t238 w _ ?side1 ?side2 A12.out).mono ?_); (case side1 => repeat (first | (with_reducible first | exact HI213.out | apply IsS72.alloc | apply IsS72.drewN | apply IsS72.drew | apply IsS72.set_1 | apply IsS72.set_2) | exact HI213.out)); (case side2 => repeat (first | (with_reducible first | exact HB.out | apply below_alloc | apply pw_below_drewN | apply below_drew1 | refine below_set ?_ (IsS72.ge HI213.out)) | exact HB.out)); rintro e w26 ⟨rfl, hi, hb, hk⟩; refine ⟨_, rfl, ?_⟩; have n0_ := Aside0.mk (spec_B10Word.FB.keep HO229.out hk NE27.out); have n1_ := Aside0.mk (hb); have n2_ := Aside0.mk (hi); clear HO229; clear HB; clear HI213; have HO229 := n0_; have HB := n1_; have HI213 := n2_; clear n0_ n1_ n2_; (try clear hb); (try clear hb2); (try clear hk); (try clear hi); have p15 : 0 ≤ (t233 : Int) := of_decide_eq_true (by first | (with_reducible assumption) | assumption); have q15 : (t233 : Int) < ((y227.length : Int) : Int) := of_decide_eq_true (by first | (with_reducible assumption) | assumption); have hx15_0 := spec_B10Word.FB.cell HO229.out p15 q15; have hf15_0 := spec_B10Word.FB.free HO229.out p15 q15; replace p15 := eq_true p15; replace q15 := eq_true q15) | ((with_reducible refine gate_store (t := 5) (p := 39) rfl ?_); refine store_event (t := 5) (p := 39) (v := ?vo_w28) (w1 := (w26.setCell ⟨gb27_, (t233 : Int).toNat, none⟩ (.int .u8 ((wrap64 (97 + t236)) % 256)))) ?hg ?ho ?hn ?hr ?_; (case ho => rfl); (case hg => rfl); (case hn => rfl); (case hr => first | (go_simp; done) | (go_simp; rfl)); intro w28 hw; have n0_ := Aside0.mk (show IsS72 w w28 g213 t210 t237 t238 from by rw [hw]; exact IsS72.far HI213.out (Ne.symm NE27.out) _); have n1_ := Aside0.mk (show spec_B10Word.FB w28 gb27_ y227.length mb27_ y239 from by rw [hw, Ny239.out]; exact spec_B10Word.FB.set HO229.out _ _); have n2_ := Aside0.mk (show Below w.heap.size w w28 from by rw [hw]; exact below_set HB.out GE27.out); clear HI213; clear HO229; clear HB; have HI213 := n0_; have HO229 := n1_; have HB := n2_; clear n0_ n1_ n2_; clear hw; have hcv29 := spec_B10Word.FB.conv (P := Tryd.prog) Tryd.underlying34 Tryd.underlying5 Tryd.underlying9 HO229.out cb27_))
        go_ret
        exact ⟨by first | rfl | (simp [errW_none, errW_some] <;> rfl) | (simp [*, errW_none, errW_some] <;> rfl), by repeat (first | (with_reducible first | exact HB.out | apply below_alloc | apply pw_below_drewN | apply below_drew1 | refine below_set ?_ (IsS72.ge HI213.out)) | exact HB.out)⟩
      · rw [if_neg c14] at H
        exact absurd H (by simp)
    · rw [if_neg c13] at H
      exact absurd H (by simp)
  · replace c10 := Bool.eq_false_iff.mpr c10
    subst c10
    have H1 : (some (strOfNums y227)) = some r := by rw [if_neg (show ¬ (false = true) by decide)] at H; exact H
    clear H
    have H := H1
    clear H1
    obtain rfl := Option.some.inj H
    have hcv0_ := fun W_ => run_bytes_of_string (P := Tryd.prog) W_ 9 34 5 t226 Tryd.underlying9 Tryd.underlying34 Tryd.underlying5
    go_enter Tryd.func27, Tryd.ntmps27
    go_wp2_with (first | ((with_reducible refine gate_callee (f := 45) rfl ?_); refine goesL_ (some 9) rfl rfl Tryd.func45 (by kernel_rfl) rfl #[.slice A0 l0.length c0] rfl (by (try simp only [List.map_toArray, List.map_cons, List.map_nil]); first | done | rfl | (simp only [List.length_drop, List.length_take]; rfl)) ?_; (with_reducible refine (spec_l00From.calls _ _ l0 t210 t211 t212 w _ ?side1 ?side2 ?side3 A2.out).mono ?_); (case side1 => repeat (first | (with_reducible first | exact HB.out | apply below_alloc | apply pw_below_drewN | apply below_drew1) | exact HB.out)); (case side2 => exact HR0.out); (case side3 => exact HC0.out); rintro e w30 ⟨g213, rfl, hi, hb, hb2⟩; refine ⟨_, rfl, ?_⟩; have n0_ := Aside0.mk (hb); have n1_ := Aside0.mk (hi); clear HB; have HB := n0_; have HI213 := n1_; clear n0_ n1_; (try clear hb); (try clear hb2); (try clear hk); (try clear hi)) | ((with_reducible refine gate_callee (f := 46) rfl ?_); refine goesL_ (some 11) rfl rfl Tryd.func46 (by kernel_rfl) rfl #[.pointer (some ⟨g213, 0, none⟩), .int .i64 20] rfl (by (try simp only [List.map_toArray, List.map_cons, List.map_nil]); first | done | rfl | (simp only [List.length_drop, List.length_take]; rfl)) ?_; (with_reducible refine (spec_l00Src_pick.calls g213 t210 t211 t212 20 t214 t215 t216 w _ ?side1 ?side2 A3.out).mono ?_); (case side1 => repeat (first | (with_reducible first | exact HI213.out | apply IsS72.alloc | apply IsS72.drewN | apply IsS72.drew | apply IsS72.set_1 | apply IsS72.set_2) | exact HI213.out)); (case side2 => repeat (first | (with_reducible first | exact HB.out | apply below_alloc | apply pw_below_drewN | apply below_drew1 | refine below_set ?_ (IsS72.ge HI213.out)) | exact HB.out)); rintro e w31 ⟨rfl, hi, hb, hk⟩; refine ⟨_, rfl, ?_⟩; have n0_ := Aside0.mk (hb); have n1_ := Aside0.mk (hi); clear HB; clear HI213; have HB := n0_; have HI213 := n1_; clear n0_ n1_; (try clear hb); (try clear hb2); (try clear hk); (try clear hi)) | ((with_reducible refine gate_callee (f := 46) rfl ?_); refine goesL_ (some 16) rfl rfl Tryd.func46 (by kernel_rfl) rfl #[.pointer (some ⟨g213, 0, none⟩), .int .i64 (wrap64 ((wrap64 (1 + t214)) + 1))] rfl (by (try simp only [List.map_toArray, List.map_cons, List.map_nil]); first | done | rfl | (simp only [List.length_drop, List.length_take]; rfl)) ?_; (with_reducible refine (spec_l00Src_pick.calls g213 t210 t215 t216 (wrap64 ((wrap64 (1 + t214)) + 1)) t217 t218 t219 w _ ?side1 ?side2 A4.out).mono ?_); (case side1 => repeat (first | (with_reducible first | exact HI213.out | apply IsS72.alloc | apply IsS72.drewN | apply IsS72.drew | apply IsS72.set_1 | apply IsS72.set_2) | exact HI213.out)); (case side2 => repeat (first | (with_reducible first | exact HB.out | apply below_alloc | apply pw_below_drewN | apply below_drew1 | refine below_set ?_ (IsS72.ge HI213.out)) | exact HB.out)); rintro e w32 ⟨rfl, hi, hb, hk⟩; refine ⟨_, rfl, ?_⟩; have n0_ := Aside0.mk (hb); have n1_ := Aside0.mk (hi); clear HB; clear HI213; have HB := n0_; have HI213 := n1_; clear n0_ n1_; (try clear hb); (try clear hb2); (try clear hk); (try clear hi)) | ((with_reducible refine gate_callee (f := 46) rfl ?_); refine goesL_ (some 19) rfl rfl Tryd.func46 (by kernel_rfl) rfl #[.pointer (some ⟨g213, 0, none⟩), .int .i64 (wrap64 (1 + t214))] rfl (by (try simp only [List.map_toArray, List.map_cons, List.map_nil]); first | done | rfl | (simp only [List.length_drop, List.length_take]; rfl)) ?_; (with_reducible refine (spec_l00Src_pick.calls g213 t210 t218 t219 (wrap64 (1 + t214)) t220 t221 t222 w _ ?side1 ?side2 A5.out).mono ?_); (case side1 => repeat (first | (with_reducible first | exact HI213.out | apply IsS72.alloc | apply IsS72.drewN | apply IsS72.drew | apply IsS72.set_1 | apply IsS72.set_2) | exact HI213.out)); (case side2 => repeat (first | (with_reducible first | exact HB.out | apply below_alloc | apply pw_below_drewN | apply below_drew1 | refine below_set ?_ (IsS72.ge HI213.out)) | exact HB.out)); rintro e w33 ⟨rfl, hi, hb, hk⟩; refine ⟨_, rfl, ?_⟩; have n0_ := Aside0.mk (hb); have n1_ := Aside0.mk (hi); clear HB; clear HI213; have HB := n0_; have HI213 := n1_; clear n0_ n1_; (try clear hb); (try clear hb2); (try clear hk); (try clear hi)) | ((with_reducible refine gate_callee (f := 46) rfl ?_); refine goesL_ (some 24) rfl rfl Tryd.func46 (by kernel_rfl) rfl #[.pointer (some ⟨g213, 0, none⟩), .int .i64 23] rfl (by (try simp only [List.map_toArray, List.map_cons, List.map_nil]); first | done | rfl | (simp only [List.length_drop, List.length_take]; rfl)) ?_; (with_reducible refine (spec_l00Src_pick.calls g213 t210 t221 t222 23 t223 t224 t225 w _ ?side1 ?side2 A6.out).mono ?_); (case side1 => repeat (first | (with_reducible first | exact HI213.out | apply IsS72.alloc | apply IsS72.drewN | apply IsS72.drew | apply IsS72.set_1 | apply IsS72.set_2) | exact HI213.out)); (case side2 => repeat (first | (with_reducible first | exact HB.out | apply below_alloc | apply pw_below_drewN | apply below_drew1 | refine below_set ?_ (IsS72.ge HI213.out)) | exact HB.out)); rintro e w34 ⟨rfl, hi, hb, hk⟩; refine ⟨_, rfl, ?_⟩; have n0_ := Aside0.mk (hb); have n1_ := Aside0.mk (hi); clear HB; clear HI213; have HB := n0_; have HI213 := n1_; clear n0_ n1_; (try clear hb); (try clear hb2); (try clear hk); (try clear hi)) | ((with_reducible refine gate_callee (f := 47) rfl ?_); refine goesL_ (some 26) rfl rfl Tryd.func47 (by kernel_rfl) rfl #[.int .i64 t217, .int .i64 (wrap64 (1 + t214)), .int .i64 t220, .int .i64 (wrap64 (1 + t223))] rfl (by (try simp only [List.map_toArray, List.map_cons, List.map_nil]); first | done | rfl | (simp only [List.length_drop, List.length_take]; rfl)) ?_; (with_reducible refine (spec_l07Line.calls k t217 (wrap64 (1 + t214)) t220 (wrap64 (1 + t223)) t226 _ A7.out).mono ?_); rintro e w35 ⟨rfl, hb⟩; refine ⟨_, rfl, ?_⟩; have n0_ := Aside0.mk (IsS72.below (by repeat (first | (with_reducible first | exact HI213.out | apply IsS72.alloc | apply IsS72.drewN | apply IsS72.drew | apply IsS72.set_1 | apply IsS72.set_2) | exact HI213.out)) hb); have n1_ := Aside0.mk (below_step (by repeat (first | (with_reducible first | exact HB.out | apply below_alloc | apply pw_below_drewN | apply below_drew1 | refine below_set ?_ (IsS72.ge HI213.out)) | exact HB.out)) hb); clear HI213; clear HB; have HI213 := n0_; have HB := n1_; clear n0_ n1_; (try clear hb); (try clear hb2); (try clear hk); (try clear hi)) | ((with_reducible refine gate_dst (N := 27) rfl ?_); refine spec_B10Word.conv_event (P := Tryd.prog) (t := t226) ?hg ?hr ?_; (case hg => rfl); (case hr => (first | (go_simp; done) | (go_simp; exact hcv0_ _) | (go_simp; rfl))); intro gb27_ cb27_ mb27_ w22 hfb_ hb_ hn_; have el_ : t226.size = y227.length := (by rw [Ny227.out, bytesOf_length]); rw [el_] at hfb_ ⊢; clear el_; rw [← Ny227.out] at hfb_; have n0_ := Aside0.mk (IsS72.below (by repeat (first | (with_reducible first | exact HI213.out | apply IsS72.alloc | apply IsS72.drewN | apply IsS72.drew | apply IsS72.set_1 | apply IsS72.set_2) | exact HI213.out)) hb_); have n1_ := Aside0.mk (below_step (by repeat (first | (with_reducible first | exact HB.out | apply below_alloc | apply pw_below_drewN | apply below_drew1 | refine below_set ?_ (IsS72.ge HI213.out)) | exact HB.out)) hb_); have n2_ := Aside0.mk hfb_; have n3_ := Aside0.mk (show gb27_ ≠ g213 from fun e_ => Nat.lt_irrefl _ (Nat.lt_of_lt_of_le (IsS72.lt HI213.out) (e_ ▸ hn_))); have n4_ := Aside0.mk (show w.heap.size ≤ gb27_ from Nat.le_trans (below_size (by repeat (first | (with_reducible first | exact HB.out | apply below_alloc | apply pw_below_drewN | apply below_drew1 | refine below_set ?_ (IsS72.ge HI213.out)) | exact HB.out))) hn_); clear HI213; clear HB; have HI213 := n0_; have HB := n1_; have HO229 := n2_; have NE27 := n3_; have GE27 := n4_; clear n0_ n1_ n2_ n3_ n4_; clear hfb_ hb_ hn_) | ((with_reducible refine gate_callee (f := 48) rfl ?_); refine goesL_ (some 29) rfl rfl Tryd.func48 (by kernel_rfl) rfl #[.pointer (some ⟨g213, 0, none⟩), .int .i64 3] rfl (by (try simp only [List.map_toArray, List.map_cons, List.map_nil]); first | done | rfl | (simp only [List.length_drop, List.length_take]; rfl)) ?_; (with_reducible refine (spec_l00Src_one.calls g213 t210 t224 t225 3 false t231 t232 w _ ?side1 ?side2 A9.out).mono ?_); (case side1 => repeat (first | (with_reducible first | exact HI213.out | apply IsS72.alloc | apply IsS72.drewN | apply IsS72.drew | apply IsS72.set_1 | apply IsS72.set_2) | exact HI213.out)); (case side2 => repeat (first | (with_reducible first | exact HB.out | apply below_alloc | apply pw_below_drewN | apply below_drew1 | refine below_set ?_ (IsS72.ge HI213.out)) | exact HB.out)); rintro e w37 ⟨rfl, hi, hb, hk⟩; refine ⟨_, rfl, ?_⟩; have n0_ := Aside0.mk (spec_B10Word.FB.keep HO229.out hk NE27.out); have n1_ := Aside0.mk (hb); have n2_ := Aside0.mk (hi); clear HO229; clear HB; clear HI213; have HO229 := n0_; have HB := n1_; have HI213 := n2_; clear n0_ n1_ n2_; (try clear hb); (try clear hb2); (try clear hk); (try clear hi); have hcv38 := spec_B10Word.FB.conv (P := Tryd.prog) Tryd.underlying34 Tryd.underlying5 Tryd.underlying9 HO229.out cb27_))
    go_ret
    exact ⟨by first | rfl | (simp [errW_none, errW_some] <;> rfl) | (simp [*, errW_none, errW_some] <;> rfl), by repeat (first | (with_reducible first | exact HB.out | apply below_alloc | apply pw_below_drewN | apply below_drew1 | refine below_set ?_ (IsS72.ge HI213.out)) | exact HB.out)⟩

/-! ### laws_b10Abs: function 28 -/
def laws_b10Abs.f (a0 : Int) : Option (Int) := if a0 < 0 then (some (wrap64 (-a0))) else (some a0)
set_option maxHeartbeats 8000000 in
set_option maxRecDepth 100000 in
theorem laws_b10Abs.calls (a0 : Int) (r : Int) (w : World) (h : laws_b10Abs.f a0 = some r) :
    Calls Tryd.prog 28 #[.int .i64 a0] w fun e w' => e = .returned (.int .i64 r) ∧ Drawn0 w w' := by
  have H : (if a0 < 0 then (some (wrap64 (-a0))) else (some a0)) = some r := h
  clear h
  by_cases c2 : a0 < 0
  · rw [if_pos c2] at H
    have c2b0 : decide (a0 < 0) = true := decide_eq_true c2
    clear c2
    obtain rfl := Option.some.inj H
    go_enter Tryd.func28, Tryd.ntmps28
    go_wp2
    go_ret
    exact ⟨by first | rfl | (simp; done) | (simp [*]; done), by repeat (first | exact Drawn0.refl _ | apply Drawn0.step)⟩
  · rw [if_neg c2] at H
    have c2b0 : decide (a0 < 0) = false := decide_eq_false c2
    clear c2
    obtain rfl := Option.some.inj H
    go_enter Tryd.func28, Tryd.ntmps28
    go_wp2
    go_ret
    exact ⟨by first | rfl | (simp; done) | (simp [*]; done), by repeat (first | exact Drawn0.refl _ | apply Drawn0.step)⟩

end Go.Proofs.YtkmghekffehimaaDoor.PFnBalanced
