/- Written by this session's program (wip/tool/xprint.py) over the kit's printer. -/
import Derived.Test.YtlhpejabdmejbaaPFnExactPermutationMixturex0
import Derived.Test.YtlhpejabdmejbaaPFnExactPermutationMixturex6
import Derived.Test.YtlhpejabdmejbaaPFnExactPermutationMixturex8
import Derived.Test.YtlhpejabdmejbaaPFnExactPermutationMixturex9
import Derived.Test.YtlhpejabdmejbaaPFnExactPermutationMixturex10
namespace Go.Proofs.Ytlhpejabdmejbaa.PFnExactPermutationMixture
open Go.RowKit Go.Proofs.YtlhpejabdmejbaaW.PrintWords Go.Proofs.YtlhpejabdmejbaaW.PrintLast Go.Proofs.YtlhpejabdmejbaaW.PrintMore
attribute [local go_sem] max2_int min2_int max_two min_two max_three min_three max_four min_four   -- for this text's walks alone
set_option linter.unusedVariables false
set_option linter.unusedSimpArgs false

/-! ### impl_PermutationMixture: function 38 -/
-- given by hand
def impl_Mixture_addTo.f (k : Nat) (y203 : List Int) (y206 : List (List Int)) (y210 : List Int) (a2 : Int) : Option (List Int × (List (List Int))) := ((slices_IndexFunc_int64_int64_impl_Mixture_addTo_1.f k y206 y210).bind fun t214 => (if t214 < 0 then ((some (([y210] : List (List Int)) : List (List Int))).bind fun y215 => (if y206.length + y215.length < 5864062014805 then ((some (([a2] : List Int) : List Int)).bind fun y221 => (if y203.length + y221.length < 17592186044416 then (some ((y203 ++ y221), (y206 ++ y215))) else (none))) else (none))) else (if 0 ≤ t214 then (if t214 < (y203.length : Int) then (some ((y203.set (t214 : Int).toNat (wrap64 ((rd y203 t214) + a2))), y206)) else (none)) else (none))))
theorem impl_Mixture_addTo.mono : ∀ a0 a1 a2 a3 k, LeO (impl_Mixture_addTo.f k a0 a1 a2 a3) (impl_Mixture_addTo.f (k + 1) a0 a1 a2 a3) := by
  intro a0 a1 a2 a3 k
  unfold impl_Mixture_addTo.f
  repeat' first
      | (with_reducible exact slices_IndexFunc_int64_int64_impl_Mixture_addTo_1.mono _ _ _)
      | (with_reducible exact LeO.refl _)
      | (with_reducible exact LeO.none _)
      | (with_reducible refine LeO.ite ?_ ?_)
      | (with_reducible refine LeO.bind ?_ (fun _ => ?_))
      | exact slices_IndexFunc_int64_int64_impl_Mixture_addTo_1.mono _ _ _
      | exact LeO.none _
      | refine LeO.ite ?_ ?_
      | refine LeO.bind ?_ (fun _ => ?_)
def impl_Mixture_addTo.T3 : Bool × List (List Nat × List Nat) := (true, [([], []), ([], []), ([], []), ([2], [2]), ([3], [3]), ([4], [4]), ([], []), ([6], [6]), ([5, 7], [5, 7]), ([], []), ([9], [9]), ([10], [10]), ([11], [11]), ([], []), ([13], [13]), ([12, 14, 8], [12, 14]), ([0, 0, 2, 3, 4, 5, 6, 7, 8, 12, 15], [0]), ([16, 0, 2, 3, 4, 5, 6, 7, 8, 12, 15], [16]), ([17, 8, 15, 0, 2, 3, 4, 5, 6, 7, 8, 12, 15], [8, 17]), ([1, 0, 1, 2, 3, 4, 5, 6, 7, 8, 9, 10, 11, 12, 13, 14, 15, 16, 17, 18], [1]), ([19, 0, 1, 2, 3, 4, 5, 6, 7, 8, 9, 10, 11, 12, 13, 14, 15, 16, 17, 18], [19]), ([20, 15, 18, 0, 1, 2, 3, 4, 5, 6, 7, 8, 9, 10, 11, 12, 13, 14, 15, 16, 17, 18], [15, 20])])
def impl_Mixture_addTo.B3 : List Nat := [0, 0, 0, 4, 12, 28, 0, 64, 252, 0, 512, 1536, 3584, 0, 8192, 32764, 65533, 131069, 262141, 524287, 1048575, 2097151]
theorem impl_Mixture_addTo.tab3 : rtab .any (opsOf Try.f89 3) = impl_Mixture_addTo.T3 := by kernel_rfl
theorem impl_Mixture_addTo.bits3 : waitsOk impl_Mixture_addTo.T3.2 impl_Mixture_addTo.B3 = true := by kernel_rfl
set_option maxHeartbeats 8000000 in
set_option maxRecDepth 100000 in
theorem impl_Mixture_addTo.calls (k : Nat) (h_ : Nat → List Int) (gb202 gb209 : Nat) (Ao14 Ao13 Ao20 : Option Addr) (co14 co13 co20 : Nat) (y203 : List Int) (y206 : List (List Int)) (y210 : List Int) (a2 : Int) (r1 : List Int) (r2 : List (List Int)) (w wi : World)
    (hB : Below w.heap.size w wi) (hge2 : w.heap.size ≤ gb202) (hge9 : w.heap.size ≤ gb209) (hne : gb202 ≠ gb209) (hk2 : wi.heap[gb202]? = some (.cells #[.slice none 0 0, .slice none 0 0] 29 (0, 0))) (hk9 : wi.heap[gb209]? = some (.cells #[.slice Ao14 y203.length co14, .slice Ao13 y206.length co13] 29 (0, 0)))
    (hW : Kd.R (Kd.int .i64) 2 wi w.heap.size (fun k_ => (w.heap.size ≤ k_)) (.slice Ao14 y203.length co14) y203) (hL : Kd.N (Go.Proofs.YtlhpejabdmejbaaW.OV.ownV h_ 2) 22 wi w.heap.size (fun k_ => ((w.heap.size ≤ k_ ∧ some k_ ≠ (.slice Ao14 y203.length co14 : Value).ownBlock ∧ k_ ≠ gb202) ∧ k_ ≠ gb209) ∧ some k_ ≠ (.slice Ao20 y210.length co20 : Value).ownBlock) (.slice Ao13 y206.length co13) y206)
    (hl : Kd.R (Kd.int .i64) 2 wi w.heap.size (fun k_ => ((w.heap.size ≤ k_) ∧ h_ k_ = y210) ∧ some k_ ≠ (.slice Ao14 y203.length co14 : Value).ownBlock) (.slice Ao20 y210.length co20) y210)
    (h : impl_Mixture_addTo.f k y203 y206 y210 a2 = some (r1, r2)) :
    Calls Try.prog 89 #[.pointer (some ⟨gb209, 0, none⟩), .slice Ao20 y210.length co20, .int .i64 a2] wi fun e w' => e = .returned (.tuple #[]) ∧ w'.heap[gb202]? = some (.cells #[.slice none 0 0, .slice none 0 0] 29 (0, 0)) ∧ (∀ k_, k_ < wi.heap.size → k_ ≠ gb209 → some k_ ≠ (.slice Ao14 y203.length co14 : Value).ownBlock → some k_ ≠ (.slice Ao13 y206.length co13 : Value).ownBlock → w'.heap[k_]? = wi.heap[k_]?) ∧ Below w.heap.size w w' ∧ wi.heap.size ≤ w'.heap.size ∧ ∃ v0_ v1_ : Value, w'.heap[gb209]? = some (.cells #[v0_, v1_] 29 (0, 0)) ∧ (∃ A c, v0_ = .slice A r1.length c) ∧ Kd.R (Kd.int .i64) 2 w' w.heap.size (fun k_ => (w.heap.size ≤ k_)) v0_ r1 ∧ Kd.N (Go.Proofs.YtlhpejabdmejbaaW.OV.ownV h_ 2) 22 w' w.heap.size (fun k_ => ((w.heap.size ≤ k_ ∧ some k_ ≠ (v0_ : Value).ownBlock ∧ k_ ≠ gb202) ∧ k_ ≠ gb209)) v1_ r2 ∧ (∀ k_, (v0_ : Value).ownBlock = some k_ → (.slice Ao14 y203.length co14 : Value).ownBlock = some k_ ∨ wi.heap.size ≤ k_) ∧ (∀ k_, (v1_ : Value).ownBlock = some k_ → (.slice Ao13 y206.length co13 : Value).ownBlock = some k_ ∨ wi.heap.size ≤ k_) := by
  have SZ := Aside0.mk (Nat.le_refl wi.heap.size)
  obtain ⟨ob1, hob1⟩ : ∃ ob1 : Option Nat, ob1 = (.slice Ao14 y203.length co14 : Value).ownBlock := ⟨_, rfl⟩
  obtain ⟨ob2, hob2⟩ : ∃ ob2 : Option Nat, ob2 = (.slice Ao13 y206.length co13 : Value).ownBlock := ⟨_, rfl⟩
  have OB1 := Aside0.mk hob1
  have OB2 := Aside0.mk hob2
  clear hob1 hob2
  have KP := Aside0.mk (fun (g_ : Nat) (o_ : Obj) (f_ : g_ ≠ gb209 ∧ some g_ ≠ ob1 ∧ some g_ ≠ ob2) (h_0 : wi.heap[g_]? = some o_) => h_0)
  have HB := Aside0.mk hB
  have GE202 := Aside0.mk hge2
  have GW202 := Aside0.mk hge2
  have GE209 := Aside0.mk hge9
  have GW209 := Aside0.mk hge9
  have NB202_209 := Aside0.mk hne
  have NB209_202 := Aside0.mk (fun e => hne e.symm : gb209 ≠ gb202)
  have BK202 := Aside0.mk hk2
  have BK209 := Aside0.mk hk9
  have HO205 : Aside0 (Kd.R (Kd.int .i64) 2 wi w.heap.size (fun k_ => ((w.heap.size ≤ k_) ∧ True) ∧ some k_ ≠ (.slice Ao20 y210.length co20 : Value).ownBlock) (.slice Ao14 y203.length co14) y203) := ⟨Kd.R_reok rfl hW (fun k_ e_ => ⟨⟨hW.1 k_ e_, trivial⟩, fun h_ => (hl.1 k_ h_.symm).2 e_.symm⟩)⟩
  have HO208 : Aside0 (Kd.N (Go.Proofs.YtlhpejabdmejbaaW.OV.ownV h_ 2) 22 wi w.heap.size (fun k_ => ((w.heap.size ≤ k_ ∧ some k_ ≠ (.slice Ao14 y203.length co14 : Value).ownBlock ∧ k_ ≠ gb202) ∧ k_ ≠ gb209) ∧ some k_ ≠ (.slice Ao20 y210.length co20 : Value).ownBlock) (.slice Ao13 y206.length co13) y206) := ⟨hL⟩
  have HO212 : Aside0 (Kd.R (Kd.int .i64) 2 wi w.heap.size (fun k_ => ((w.heap.size ≤ k_) ∧ h_ k_ = y210) ∧ some k_ ≠ (.slice Ao14 y203.length co14 : Value).ownBlock) (.slice Ao20 y210.length co20) y210) := ⟨hl⟩
  have H := h
  unfold impl_Mixture_addTo.f at H
  clear h hB hge2 hge9 hne hk2 hk9 hW hL hl
  replace H := Option.bind_eq_some_iff.mp H
  obtain ⟨t214, A40, H⟩ := H
  replace H : (if t214 < 0 then ((some (([y210] : List (List Int)) : List (List Int))).bind fun y215 => (if y206.length + y215.length < 5864062014805 then ((some (([a2] : List Int) : List Int)).bind fun y221 => (if y203.length + y221.length < 17592186044416 then (some ((y203 ++ y221), (y206 ++ y215))) else (none))) else (none))) else (if 0 ≤ t214 then (if t214 < (y203.length : Int) then (some ((y203.set (t214 : Int).toNat (wrap64 ((rd y203 t214) + a2))), y206)) else (none)) else (none))) = some (r1, r2) := H
  have A4 := Aside0.mk A40
  clear A40
  by_cases c5 : t214 < 0
  · rw [if_pos c5] at H
    have c5b0 : decide (t214 < 0) = true := decide_eq_true c5
    clear c5
    obtain ⟨y215, hy215⟩ : ∃ y_ : List (List Int), y_ = (([y210] : List (List Int))) := ⟨_, rfl⟩
    replace H : (if y206.length + y215.length < 5864062014805 then ((some (([a2] : List Int) : List Int)).bind fun y221 => (if y203.length + y221.length < 17592186044416 then (some ((y203 ++ y221), (y206 ++ y215))) else (none))) else (none)) = some (r1, r2) := by first | (rw [hy215]; with_reducible exact H) | (have H2_ := (Option.bind_some _ _).symm.trans H; rw [hy215]; with_reducible exact H2_) | (have H2_ := (Option.bind_some _ _).symm.trans H; with_reducible exact H2_) | with_reducible exact H | (rw [hy215]; exact H) | exact H
    have Ny215 := Aside0.mk hy215
    clear hy215
    by_cases c6 : y206.length + y215.length < 5864062014805
    · rw [if_pos c6] at H
      have LMc6 := Aside0.mk c6
      clear c6
      obtain ⟨y218, hy218⟩ : ∃ y_ : List (List Int), y_ = (y206 ++ y215) := ⟨_, rfl⟩
      replace H : ((some (([a2] : List Int) : List Int)).bind fun y221 => (if y203.length + y221.length < 17592186044416 then (some ((y203 ++ y221), y218)) else (none))) = some (r1, r2) := by first | (rw [hy218]; with_reducible exact H) | (have H2_ := (Option.bind_some _ _).symm.trans H; rw [hy218]; with_reducible exact H2_) | (have H2_ := (Option.bind_some _ _).symm.trans H; with_reducible exact H2_) | with_reducible exact H | (rw [hy218]; exact H) | exact H
      have Ny218 := Aside0.mk hy218
      clear hy218
      obtain ⟨y221, hy221⟩ : ∃ y_ : List Int, y_ = (([a2] : List Int)) := ⟨_, rfl⟩
      replace H : (if y203.length + y221.length < 17592186044416 then (some ((y203 ++ y221), y218)) else (none)) = some (r1, r2) := by first | (rw [hy221]; with_reducible exact H) | (have H2_ := (Option.bind_some _ _).symm.trans H; rw [hy221]; with_reducible exact H2_) | (have H2_ := (Option.bind_some _ _).symm.trans H; with_reducible exact H2_) | with_reducible exact H | (rw [hy221]; exact H) | exact H
      have Ny221 := Aside0.mk hy221
      clear hy221
      by_cases c7 : y203.length + y221.length < 17592186044416
      · rw [if_pos c7] at H
        have LMc7 := Aside0.mk c7
        clear c7
        obtain ⟨y224, hy224⟩ : ∃ y_ : List Int, y_ = (y203 ++ y221) := ⟨_, rfl⟩
        replace H : (some (y224, y218)) = some (r1, r2) := by first | (rw [hy224]; with_reducible exact H) | (have H2_ := (Option.bind_some _ _).symm.trans H; rw [hy224]; with_reducible exact H2_) | (have H2_ := (Option.bind_some _ _).symm.trans H; with_reducible exact H2_) | with_reducible exact H | (rw [hy224]; exact H) | exact H
        have Ny224 := Aside0.mk hy224
        clear hy224
        simp only [Option.some.injEq, Prod.mk.injEq] at H
        obtain ⟨rfl, rfl⟩ := H
        go_enter Try.func89, Try.ntmps89
        try go_wp2_with (first | ((with_reducible refine gate_dst (N := 4) rfl ?_); refine box_event ?hg (N := 4) ?hd (cs := #[.slice Ao20 y210.length co20]) (t := 22) ?hr ?_; (case hd => rfl); (case hg => rfl); (case hr => first | (go_simp; done) | (go_simp; rfl)); intro gb213 hg w21 hbox hb; have n0_ := Aside0.mk (Kd.R_below (by (with_reducible repeat (first | apply Kd.R_alloc | apply Kd.R_drewN | apply Kd.R_drew)); exact HO205.out) hb); have n1_ := Aside0.mk (Kd.N_below (Kd.N_elderB (by (with_reducible repeat (first | apply Kd.N_alloc | apply Kd.N_drewN | apply Kd.N_drew)); exact HO208.out) gb213 (Nat.le_of_eq hg.symm)) hb); have n2_ := Aside0.mk (Kd.R_below (by (with_reducible repeat (first | apply Kd.R_alloc | apply Kd.R_drewN | apply Kd.R_drew)); exact HO212.out) hb); have sz_ := Aside0.mk (Go.Proofs.YtlhpejabdmejbaaW.OV.sz_below (by (with_reducible repeat (first | refine Go.Proofs.YtlhpejabdmejbaaW.OV.sz_drewN ?_ _ | refine Go.Proofs.YtlhpejabdmejbaaW.OV.sz_drew ?_ | refine Go.Proofs.YtlhpejabdmejbaaW.OV.sz_alloc ?_ _)); exact SZ.out) hb); clear SZ; have SZ := sz_; clear sz_; have kp_ := Aside0.mk (fun (g_ : Nat) (o_ : Obj) (f_ : g_ ≠ gb209 ∧ some g_ ≠ ob1 ∧ some g_ ≠ ob2) (h_0 : wi.heap[g_]? = some o_) => blk_below (g := g_) (o := o_) (by (with_reducible repeat (first | refine blk_drewN ?_ _ | refine blk_drew ?_ | refine blk_alloc ?_ _)); exact KP.out g_ o_ f_ h_0) hb); clear KP; have KP := kp_; clear kp_; have n3_ := Aside0.mk (blk_below (g := gb202) (o := .cells #[.slice none 0 0, .slice none 0 0] 29 (0, 0)) (by (with_reducible repeat (first | refine blk_drewN ?_ _ | refine blk_drew ?_ | refine blk_alloc ?_ _)); exact BK202.out) hb); have n4_ := Aside0.mk (blk_below (g := gb209) (o := .cells #[.slice Ao14 y203.length co14, .slice Ao13 y206.length co13] 29 (0, 0)) (by (with_reducible repeat (first | refine blk_drewN ?_ _ | refine blk_drew ?_ | refine blk_alloc ?_ _)); exact BK209.out) hb); have n5_ := Aside0.mk (below_step (by repeat (first | (with_reducible first | exact HB.out | apply below_alloc | apply pw_below_drewN | apply below_drew1 | refine below_set ?_ GE202.out | refine below_set ?_ GE209.out) | exact HB.out)) hb); have n6_ := Aside0.mk (hbox); have n7_ := Aside0.mk ((by rw [hg]; exact (below_size (by repeat (first | (with_reducible first | exact HB.out | apply below_alloc | apply pw_below_drewN | apply below_drew1 | refine below_set ?_ GE202.out | refine below_set ?_ GE209.out) | exact HB.out))) : w.heap.size ≤ gb213)); have n8_ := Aside0.mk ((by rw [hg]; exact (below_size (by repeat (first | (with_reducible first | exact HB.out | apply below_alloc | apply pw_below_drewN | apply below_drew1 | refine below_set ?_ GE202.out | refine below_set ?_ GE209.out) | exact HB.out))) : w.heap.size ≤ gb213)); have n9_ := Aside0.mk ((by rw [hg]; exact Nat.ne_of_lt (blk_lt (g := gb202) (o := .cells #[.slice none 0 0, .slice none 0 0] 29 (0, 0)) (by (with_reducible repeat (first | refine blk_drewN ?_ _ | refine blk_drew ?_ | refine blk_alloc ?_ _)); exact BK202.out)) : gb202 ≠ gb213)); have n10_ := Aside0.mk ((by rw [hg]; exact Nat.ne_of_gt (blk_lt (g := gb202) (o := .cells #[.slice none 0 0, .slice none 0 0] 29 (0, 0)) (by (with_reducible repeat (first | refine blk_drewN ?_ _ | refine blk_drew ?_ | refine blk_alloc ?_ _)); exact BK202.out)) : gb213 ≠ gb202)); have n11_ := Aside0.mk ((by rw [hg]; exact Nat.ne_of_lt (blk_lt (g := gb209) (o := .cells #[.slice Ao14 y203.length co14, .slice Ao13 y206.length co13] 29 (0, 0)) (by (with_reducible repeat (first | refine blk_drewN ?_ _ | refine blk_drew ?_ | refine blk_alloc ?_ _)); exact BK209.out)) : gb209 ≠ gb213)); have n12_ := Aside0.mk ((by rw [hg]; exact Nat.ne_of_gt (blk_lt (g := gb209) (o := .cells #[.slice Ao14 y203.length co14, .slice Ao13 y206.length co13] 29 (0, 0)) (by (with_reducible repeat (first | refine blk_drewN ?_ _ | refine blk_drew ?_ | refine blk_alloc ?_ _)); exact BK209.out)) : gb213 ≠ gb209)); clear HO205; clear HO208; clear HO212; clear BK202; clear BK209; clear HB; have HO205 := n0_; have HO208 := n1_; have HO212 := n2_; have BK202 := n3_; have BK209 := n4_; have HB := n5_; have BK213 := n6_; have GW213 := n7_; have GE213 := n8_; have NB202_213 := n9_; have NB213_202 := n10_; have NB209_213 := n11_; have NB213_209 := n12_; clear n0_ n1_ n2_ n3_ n4_ n5_ n6_ n7_ n8_ n9_ n10_ n11_ n12_; clear hb hbox hg; have hnb22 := NB209_213.out; have hnc22 := NB213_209.out; have hcz23_0 : w21.cell? ⟨gb209, 0, none⟩ = some (.slice Ao14 y203.length co14) := (blk_cell BK209.out 0).trans rfl; have hcz23_1 : w21.cell? ⟨gb209, 1, none⟩ = some (.slice Ao13 y206.length co13) := (blk_cell BK209.out 1).trans rfl; have hfz23_0 := blk_frozen BK209.out 0; have hfz23_1 := blk_frozen BK209.out 1) | ((with_reducible refine gate_callee (f := 118) rfl ?_); refine goesL_ (some 12) rfl rfl Try.func118 (by kernel_rfl) rfl #[.slice Ao13 y206.length co13, .func (.func 124) #[] #[.pointer (some ⟨gb213, 0, none⟩)]] rfl (by (try simp only [List.map_toArray, List.map_cons, List.map_nil]); first | done | rfl | (simp only [List.length_drop, List.length_take]; rfl)) ?_; (with_reducible refine (slices_IndexFunc_int64_int64_impl_Mixture_addTo_1.calls k _ _ y206 gb213 Ao20 co20 y210 t214 _ ?side1 ?side2 ?side3 ?side4 ?side5 A4.out).mono ?_); (case side1 => repeat (first | exact Go.Proofs.YtlhpejabdmejbaaW.OV.ownV_C (Kd.N_reads' HO208.out).2.2 | (with_reducible refine Kd.C_alloc ?_ _) | (with_reducible refine Kd.C_drewN ?_ _) | (with_reducible refine Kd.C_drew ?_))); (case side2 => exact (Kd.N_reads' HO208.out).2.1); (case side3 => first | (with_reducible exact BK213.out) | (exact by (with_reducible repeat (first | refine blk_drewN ?_ _ | refine blk_drew ?_ | refine blk_alloc ?_ _)); exact BK213.out) | ((with_reducible repeat (first | refine blk_drewN ?_ _ | refine blk_drew ?_ | refine blk_alloc ?_ _)); exact BK213.out) | (exact BK213.out)); (case side4 => repeat (first | exact (Kd.R_reads' HO212.out).2.2 | (with_reducible refine Kd.C_alloc ?_ _) | (with_reducible refine Kd.C_drewN ?_ _) | (with_reducible refine Kd.C_drew ?_))); (case side5 => exact (Kd.R_reads' HO212.out).2.1); rintro e w24 ⟨rfl, hb⟩; refine ⟨_, rfl, ?_⟩; have n0_ := Aside0.mk (Kd.R_below (by (with_reducible repeat (first | apply Kd.R_alloc | apply Kd.R_drewN | apply Kd.R_drew)); exact HO205.out) hb); have n1_ := Aside0.mk (Kd.N_below (by (with_reducible repeat (first | apply Kd.N_alloc | apply Kd.N_drewN | apply Kd.N_drew)); exact HO208.out) hb); have n2_ := Aside0.mk (Kd.R_below (by (with_reducible repeat (first | apply Kd.R_alloc | apply Kd.R_drewN | apply Kd.R_drew)); exact HO212.out) hb); have sz_ := Aside0.mk (Go.Proofs.YtlhpejabdmejbaaW.OV.sz_below (by (with_reducible repeat (first | refine Go.Proofs.YtlhpejabdmejbaaW.OV.sz_drewN ?_ _ | refine Go.Proofs.YtlhpejabdmejbaaW.OV.sz_drew ?_ | refine Go.Proofs.YtlhpejabdmejbaaW.OV.sz_alloc ?_ _)); exact SZ.out) hb); clear SZ; have SZ := sz_; clear sz_; have kp_ := Aside0.mk (fun (g_ : Nat) (o_ : Obj) (f_ : g_ ≠ gb209 ∧ some g_ ≠ ob1 ∧ some g_ ≠ ob2) (h_0 : wi.heap[g_]? = some o_) => blk_below (g := g_) (o := o_) (by (with_reducible repeat (first | refine blk_drewN ?_ _ | refine blk_drew ?_ | refine blk_alloc ?_ _)); exact KP.out g_ o_ f_ h_0) hb); clear KP; have KP := kp_; clear kp_; have n3_ := Aside0.mk (blk_below (g := gb202) (o := .cells #[.slice none 0 0, .slice none 0 0] 29 (0, 0)) (by (with_reducible repeat (first | refine blk_drewN ?_ _ | refine blk_drew ?_ | refine blk_alloc ?_ _)); exact BK202.out) hb); have n4_ := Aside0.mk (blk_below (g := gb209) (o := .cells #[.slice Ao14 y203.length co14, .slice Ao13 y206.length co13] 29 (0, 0)) (by (with_reducible repeat (first | refine blk_drewN ?_ _ | refine blk_drew ?_ | refine blk_alloc ?_ _)); exact BK209.out) hb); have n5_ := Aside0.mk (blk_below (g := gb213) (o := .cells #[.slice Ao20 y210.length co20] 22 (0, 0)) (by (with_reducible repeat (first | refine blk_drewN ?_ _ | refine blk_drew ?_ | refine blk_alloc ?_ _)); exact BK213.out) hb); have n6_ := Aside0.mk (below_step (by repeat (first | (with_reducible first | exact HB.out | apply below_alloc | apply pw_below_drewN | apply below_drew1 | refine below_set ?_ GE202.out | refine below_set ?_ GE209.out | refine below_set ?_ GE213.out) | exact HB.out)) hb); clear HO205; clear HO208; clear HO212; clear BK202; clear BK209; clear BK213; clear HB; have HO205 := n0_; have HO208 := n1_; have HO212 := n2_; have BK202 := n3_; have BK209 := n4_; have BK213 := n5_; have HB := n6_; clear n0_ n1_ n2_ n3_ n4_ n5_ n6_; (try clear hb); (try clear hb2); (try clear hk); (try clear hi)))
        have n0_ := Aside0.mk (Kd.R_drew HO205.out)
        have n1_ := Aside0.mk (Kd.N_drew HO208.out)
        have n2_ := Aside0.mk (Kd.R_drew HO212.out)
        have sz_ := Aside0.mk (Go.Proofs.YtlhpejabdmejbaaW.OV.sz_drew SZ.out); clear SZ; have SZ := sz_; clear sz_; have kp_ := Aside0.mk (fun (g_ : Nat) (o_ : Obj) (f_ : g_ ≠ gb209 ∧ some g_ ≠ ob1 ∧ some g_ ≠ ob2) (h_0 : wi.heap[g_]? = some o_) => blk_drew (KP.out g_ o_ f_ h_0)); clear KP; have KP := kp_; clear kp_; have n3_ := Aside0.mk (blk_drew BK202.out)
        have n4_ := Aside0.mk (blk_drew BK209.out)
        have n5_ := Aside0.mk (blk_drew BK213.out)
        have n6_ := Aside0.mk (below_drew1 HB.out)
        clear HO205
        clear HO208
        clear HO212
        clear BK202
        clear BK209
        clear BK213
        clear HB
        have HO205 := n0_
        have HO208 := n1_
        have HO212 := n2_
        have BK202 := n3_
        have BK209 := n4_
        have BK213 := n5_
        have HB := n6_
        clear n0_ n1_ n2_ n3_ n4_ n5_ n6_
        refine start_ (n := 22) (S := fun w' => w'.cell? ⟨gb209, 0, none⟩ = some (.slice Ao14 y203.length co14) ∧ w'.cell? ⟨gb209, 1, none⟩ = some (.slice Ao13 y206.length co13) ∧ w'.cell? ⟨gb213, 0, none⟩ = some (.slice Ao20 y210.length co20)) (ds := [18, 21]) #[false, false, false, false, false, false, false, false, false, false, false, false, false, false, false, false, false, false, false, false, false, false] (by kernel_rfl) rfl rfl ⟨(blk_cell BK209.out 0).trans rfl, (blk_cell BK209.out 1).trans rfl, (blk_cell BK213.out 0).trans rfl⟩ (fun hHeld => ?_); refine with_tabW impl_Mixture_addTo.tab3 impl_Mixture_addTo.bits3 (fun HT_ HW_ => ?_)
        generalize w24.drew = w25 at HO205 HO208 HO212 KP SZ BK202 BK209 BK213 HB hHeld ⊢
        refine pure_ (i := 0) (N := some 15) (v := ?_) (a' := ?_) #[true, false, false, false, false, false, false, false, false, false, false, false, false, false, false, false, false, false, false, false, false, false] rfl rfl (any_of HT_.out (by kernel_rfl)) (fun _ _ _ h => h) (Or.inl ⟨by rfl, ?_⟩) ?_ ?_
        rotate_left
        · intro w'
          go_simp
          with_reducible rfl
        rotate_left
        · simp only [Act.put, List.setIfInBounds_toArray, List.set_cons_zero, List.set_cons_succ, i64_w, i32_w]
          rfl
        refine pure_ (i := 1) (N := some 16) (v := ?_) (a' := ?_) #[true, true, false, false, false, false, false, false, false, false, false, false, false, false, false, false, false, false, false, false, false, false] rfl rfl (any_of HT_.out (by kernel_rfl)) (fun _ _ _ h => h) (Or.inl ⟨by rfl, ?_⟩) ?_ ?_
        rotate_left
        · intro w'
          go_simp
          with_reducible rfl
        rotate_left
        · simp only [Act.put, List.setIfInBounds_toArray, List.set_cons_zero, List.set_cons_succ, i64_w, i32_w]
          rfl
        refine pure_ (i := 2) (N := some 17) (v := ?_) (a' := ?_) #[true, true, true, false, false, false, false, false, false, false, false, false, false, false, false, false, false, false, false, false, false, false] rfl rfl (any_of HT_.out (by kernel_rfl)) (fun _ _ _ h => h) (Or.inl ⟨by rfl, ?_⟩) ?_ ?_
        rotate_left
        · intro w'
          go_simp
          with_reducible rfl
        rotate_left
        · simp only [Act.put, List.setIfInBounds_toArray, List.set_cons_zero, List.set_cons_succ, i64_w, i32_w]
          rfl
        refine pure_ (i := 3) (N := some 18) (v := ?_) (a' := ?_) #[true, true, true, true, false, false, false, false, false, false, false, false, false, false, false, false, false, false, false, false, false, false] rfl rfl (any_of HT_.out (by kernel_rfl)) (fun _ _ _ h => h) (Or.inl ⟨by rfl, ?_⟩) ?_ ?_
        rotate_left
        · intro w'
          go_simp
          with_reducible rfl
        rotate_left
        · simp only [Act.put, List.setIfInBounds_toArray, List.set_cons_zero, List.set_cons_succ, i64_w, i32_w]
          rfl
        refine pure_ (i := 4) (N := some 19) (v := ?_) (a' := ?_) #[true, true, true, true, true, false, false, false, false, false, false, false, false, false, false, false, false, false, false, false, false, false] rfl rfl (any_of HT_.out (by kernel_rfl)) (fun _ _ _ h => h) (Or.inl ⟨by rfl, ?_⟩) ?_ ?_
        rotate_left
        · intro w'
          go_simp
          with_reducible rfl
        rotate_left
        · simp only [Act.put, List.setIfInBounds_toArray, List.set_cons_zero, List.set_cons_succ, i64_w, i32_w]
          rfl
        refine pure_ (i := 9) (N := some 24) (v := ?_) (a' := ?_) #[true, true, true, true, true, false, false, false, false, true, false, false, false, false, false, false, false, false, false, false, false, false] rfl rfl (any_of HT_.out (by kernel_rfl)) (fun _ _ _ h => h) (Or.inl ⟨by rfl, ?_⟩) ?_ ?_
        rotate_left
        · intro w'
          go_simp
          with_reducible rfl
        rotate_left
        · simp only [Act.put, List.setIfInBounds_toArray, List.set_cons_zero, List.set_cons_succ, i64_w, i32_w]
          rfl
        refine pure_ (i := 10) (N := some 25) (v := ?_) (a' := ?_) #[true, true, true, true, true, false, false, false, false, true, true, false, false, false, false, false, false, false, false, false, false, false] rfl rfl (any_of HT_.out (by kernel_rfl)) (fun _ _ _ h => h) (Or.inl ⟨by rfl, ?_⟩) ?_ ?_
        rotate_left
        · intro w'
          go_simp
          with_reducible rfl
        rotate_left
        · simp only [Act.put, List.setIfInBounds_toArray, List.set_cons_zero, List.set_cons_succ, i64_w, i32_w]
          rfl
        refine pure_ (i := 11) (N := some 26) (v := ?_) (a' := ?_) #[true, true, true, true, true, false, false, false, false, true, true, true, false, false, false, false, false, false, false, false, false, false] rfl rfl (any_of HT_.out (by kernel_rfl)) (fun _ _ _ h => h) (Or.inl ⟨by rfl, ?_⟩) ?_ ?_
        rotate_left
        · intro w'
          go_simp
          with_reducible rfl
        rotate_left
        · simp only [Act.put, List.setIfInBounds_toArray, List.set_cons_zero, List.set_cons_succ, i64_w, i32_w]
          rfl
        refine pure_ (i := 13) (N := some 28) (v := ?_) (a' := ?_) #[true, true, true, true, true, false, false, false, false, true, true, true, false, true, false, false, false, false, false, false, false, false] rfl rfl (any_of HT_.out (by kernel_rfl)) (fun _ _ _ h => h) (Or.inl ⟨by rfl, ?_⟩) ?_ ?_
        rotate_left
        · intro w'
          go_simp
          with_reducible rfl
        rotate_left
        · simp only [Act.put, List.setIfInBounds_toArray, List.set_cons_zero, List.set_cons_succ, i64_w, i32_w]
          rfl
        refine take_ (i := 5) (N := some 20) (v := ?_) (a' := ?_) #[true, true, true, true, true, true, false, false, false, true, true, true, false, true, false, false, false, false, false, false, false, false] rfl rfl (take_ofW HT_.out HW_.out (by kernel_rfl)) (fun _ _ _ h => h) (Or.inl ⟨by rfl, ?_⟩) hHeld ?_ ?_
        rotate_left
        · rintro w' ⟨s0, s1, s2⟩
          go_simp
          with_reducible rfl
        rotate_left
        · simp only [Act.put, List.setIfInBounds_toArray, List.set_cons_zero, List.set_cons_succ, i64_w, i32_w]
          rfl
        refine take_ (i := 6) (N := some 21) (v := ?_) (a' := ?_) #[true, true, true, true, true, true, true, false, false, true, true, true, false, true, false, false, false, false, false, false, false, false] rfl rfl (take_ofW HT_.out HW_.out (by kernel_rfl)) (fun _ _ _ h => h) (Or.inl ⟨by rfl, ?_⟩) hHeld ?_ ?_
        rotate_left
        · rintro w' ⟨s0, s1, s2⟩
          go_simp
          with_reducible rfl
        rotate_left
        · simp only [Act.put, List.setIfInBounds_toArray, List.set_cons_zero, List.set_cons_succ, i64_w, i32_w]
          rfl
        refine take_ (i := 12) (N := some 27) (v := ?_) (a' := ?_) #[true, true, true, true, true, true, true, false, false, true, true, true, true, true, false, false, false, false, false, false, false, false] rfl rfl (take_ofW HT_.out HW_.out (by kernel_rfl)) (fun _ _ _ h => h) (Or.inl ⟨by rfl, ?_⟩) hHeld ?_ ?_
        rotate_left
        · rintro w' ⟨s0, s1, s2⟩
          go_simp
          with_reducible rfl
        rotate_left
        · simp only [Act.put, List.setIfInBounds_toArray, List.set_cons_zero, List.set_cons_succ, i64_w, i32_w]
          rfl
        refine join_ (σ := Value × Value × Value) 7 #[true, true, true, true, true, true, true, true, true, true, true, true, true, true, true, false, false, false, false, false, false, false] (fun s_ => [(22, s_.1), (23, s_.2.1), (29, s_.2.2)]) (fun s_ w' => (w'.cell? ⟨gb209, 0, none⟩ = some (.slice Ao14 y203.length co14) ∧ w'.cell? ⟨gb209, 1, none⟩ = some (.slice Ao13 y206.length co13) ∧ w'.cell? ⟨gb213, 0, none⟩ = some (.slice Ao20 y210.length co20)) ∧ (Kd.R (Kd.int .i64) 2 w' w.heap.size (fun k_ => (w.heap.size ≤ k_) ∧ some k_ ≠ (s_.2.2 : Value).ownBlock) (.slice Ao14 y203.length co14) y203) ∧ (Kd.N (Go.Proofs.YtlhpejabdmejbaaW.OV.ownV h_ 2) 22 w' w.heap.size (fun k_ => (w.heap.size ≤ k_) ∧ some k_ ≠ (.slice Ao14 y203.length co14 : Value).ownBlock ∧ some k_ ≠ (s_.2.1 : Value).ownBlock ∧ some k_ ≠ (s_.2.2 : Value).ownBlock ∧ k_ ≠ gb202 ∧ k_ ≠ gb209 ∧ k_ ≠ gb213) s_.1 y215) ∧ (Kd.N (Go.Proofs.YtlhpejabdmejbaaW.OV.ownV h_ 2) 22 w' w.heap.size (fun k_ => (w.heap.size ≤ k_) ∧ some k_ ≠ (.slice Ao14 y203.length co14 : Value).ownBlock ∧ some k_ ≠ (s_.2.2 : Value).ownBlock ∧ k_ ≠ gb202 ∧ k_ ≠ gb209 ∧ k_ ≠ gb213) s_.2.1 y218) ∧ (Kd.R (Kd.int .i64) 2 w' w.heap.size (fun k_ => (w.heap.size ≤ k_) ∧ some k_ ≠ (.slice Ao14 y203.length co14 : Value).ownBlock) s_.2.2 y221) ∧ ((w'.heap[gb202]? = some (.cells #[.slice none 0 0, .slice none 0 0] 29 (0, 0))) ∧ (∀ (g_ : Nat) (o_ : Obj), g_ ≠ gb209 ∧ some g_ ≠ ob1 ∧ some g_ ≠ ob2 → wi.heap[g_]? = some o_ → w'.heap[g_]? = some o_) ∧ wi.heap.size ≤ w'.heap.size ∧ (∀ k_, (s_.2.1 : Value).ownBlock = some k_ → ob2 = some k_ ∨ wi.heap.size ≤ k_)) ∧ (w'.heap[gb209]? = some (.cells #[.slice Ao14 y203.length co14, .slice Ao13 y206.length co13] 29 (0, 0))) ∧ (w'.heap[gb213]? = some (.cells #[.slice Ao20 y210.length co20] 22 (0, 0))) ∧ (Below w.heap.size w w')) ?_ ?_
        rotate_left
        · intro hCont
          refine two_ (i := 7) (j := 14) (Ni := some 22) (Nj := some 29) #[true, true, true, true, true, true, true, true, false, true, true, true, true, true, false, false, false, false, false, false, false, false] #[true, true, true, true, true, true, true, false, false, true, true, true, true, true, true, false, false, false, false, false, false, false] rfl rfl rfl rfl (two_of HT_.out (by kernel_rfl)) (by decide) (by decide) (fun K hK => ?_) (fun K hK => ?_)
          · skip
            refine Kd.N_lit_step (Go.Proofs.YtlhpejabdmejbaaW.OV.ownV h_ 2) _ 22 ?hg (N' := 22) ?hd (xs := ([y210] : List (List Int))) (inner := [.slice Ao20 y210.length co20]) (ok := (fun k_ => (w.heap.size ≤ k_) ∧ some k_ ≠ (.slice Ao14 y203.length co14 : Value).ownBlock ∧ some k_ ≠ (.slice Ao13 y206.length co13 : Value).ownBlock ∧ k_ ≠ gb202 ∧ k_ ≠ gb209 ∧ k_ ≠ gb213)) (okp := (fun k_ => (w.heap.size ≤ k_) ∧ some k_ ≠ (.slice Ao14 y203.length co14 : Value).ownBlock ∧ some k_ ≠ (.slice Ao13 y206.length co13 : Value).ownBlock ∧ k_ ≠ gb202 ∧ k_ ≠ gb209 ∧ k_ ≠ gb213)) ?hr ?hp (fun _ hk => hk) ((show ∀ k_, w25.heap.size ≤ k_ → (fun k_ => (w.heap.size ≤ k_) ∧ some k_ ≠ (.slice Ao14 y203.length co14 : Value).ownBlock ∧ some k_ ≠ (.slice Ao13 y206.length co13 : Value).ownBlock ∧ k_ ≠ gb202 ∧ k_ ≠ gb209 ∧ k_ ≠ gb213) k_ from fun k_ hk => ⟨(Nat.le_trans (below_size (by repeat (first | (with_reducible first | exact HB.out | apply below_alloc | apply pw_below_drewN | apply below_drew1 | refine below_set ?_ GE202.out | refine below_set ?_ GE209.out | refine below_set ?_ GE213.out) | exact HB.out))) hk), Kd.fresh' (Kd.R_lt (by (with_reducible repeat (first | apply Kd.R_alloc | apply Kd.R_drewN | apply Kd.R_drew)); exact HO205.out)) k_ hk, Kd.fresh' (Kd.N_lt (by (with_reducible repeat (first | apply Kd.N_alloc | apply Kd.N_drewN | apply Kd.N_drew)); exact HO208.out)) k_ hk, Kd.freshB (g := gb202) (o := .cells #[.slice none 0 0, .slice none 0 0] 29 (0, 0)) (by (with_reducible repeat (first | refine blk_drewN ?_ _ | refine blk_drew ?_ | refine blk_alloc ?_ _)); exact BK202.out) k_ hk, Kd.freshB (g := gb209) (o := .cells #[.slice Ao14 y203.length co14, .slice Ao13 y206.length co13] 29 (0, 0)) (by (with_reducible repeat (first | refine blk_drewN ?_ _ | refine blk_drew ?_ | refine blk_alloc ?_ _)); exact BK209.out) k_ hk, Kd.freshB (g := gb213) (o := .cells #[.slice Ao20 y210.length co20] 22 (0, 0)) (by (with_reducible repeat (first | refine blk_drewN ?_ _ | refine blk_drew ?_ | refine blk_alloc ?_ _)); exact BK213.out) k_ hk⟩) _ (Nat.le_refl _)) (Below.refl _ _) (Nat.le_refl _) (by simp) ?_; (case hd => rfl); (case hg => rfl); (case hr => first | (go_simp; done) | (go_simp; rfl)); (case hp => exact (Reps.one (show Kd.FK (Go.Proofs.YtlhpejabdmejbaaW.OV.ownV h_ 2) _ _ y210 [.slice Ao20 y210.length co20] from (Kd.FK_mono (Go.Proofs.YtlhpejabdmejbaaW.OV.ownV_mk (Kd.R_mono (ok' := (fun k_ => ((fun k_ => (w.heap.size ≤ k_) ∧ some k_ ≠ (.slice Ao14 y203.length co14 : Value).ownBlock ∧ some k_ ≠ (.slice Ao13 y206.length co13 : Value).ownBlock ∧ k_ ≠ gb202 ∧ k_ ≠ gb209 ∧ k_ ≠ gb213)) k_ ∧ h_ k_ = y210)) (Kd.R_types (Kd.R_types (Kd.R_types (Kd.R_apart' (HO212.out) (Kd.N_typed HO208.out) (by decide)) BK202.out (by decide)) BK209.out (by decide)) BK213.out (by decide)) (fun k_ hk => ⟨⟨hk.1.1.1.1.1.1, ⟨hk.1.1.1.1.2, ⟨hk.1.1.1.2, ⟨hk.1.1.2, ⟨hk.1.2, hk.2⟩⟩⟩⟩⟩, hk.1.1.1.1.1.2⟩)) (fun _ hk => hk.2)) (fun _ hk => hk.1))) (Reps.none _ _)))
            intro v216 w26 ho27 hb hg_ hnew_
            clear hg_ hnew_
            (first | rw [← Ny215.out] at ho27 | (simp only [Int.reduceToNat] at ho27; rw [← Ny215.out] at ho27))
            have n0_ := Aside0.mk (Kd.R_below (by (with_reducible repeat (first | apply Kd.R_alloc | apply Kd.R_drewN | apply Kd.R_drew)); exact HO205.out) hb)
            have n1_ := Aside0.mk (Kd.N_elder' (by (with_reducible repeat (first | apply Kd.N_alloc | apply Kd.N_drewN | apply Kd.N_drew)); exact HO208.out) (Kd.N_base ho27) hb)
            have n2_ := Aside0.mk (Kd.N_lower ho27 (below_size (by repeat (first | (with_reducible first | exact HB.out | apply below_alloc | apply pw_below_drewN | apply below_drew1 | refine below_set ?_ GE202.out | refine below_set ?_ GE209.out | refine below_set ?_ GE213.out) | exact HB.out))))
            have sz_ := Aside0.mk (Go.Proofs.YtlhpejabdmejbaaW.OV.sz_below (by (with_reducible repeat (first | refine Go.Proofs.YtlhpejabdmejbaaW.OV.sz_drewN ?_ _ | refine Go.Proofs.YtlhpejabdmejbaaW.OV.sz_drew ?_ | refine Go.Proofs.YtlhpejabdmejbaaW.OV.sz_alloc ?_ _)); exact SZ.out) hb); clear SZ; have SZ := sz_; clear sz_; have kp_ := Aside0.mk (fun (g_ : Nat) (o_ : Obj) (f_ : g_ ≠ gb209 ∧ some g_ ≠ ob1 ∧ some g_ ≠ ob2) (h_0 : wi.heap[g_]? = some o_) => blk_below (g := g_) (o := o_) (by (with_reducible repeat (first | refine blk_drewN ?_ _ | refine blk_drew ?_ | refine blk_alloc ?_ _)); exact KP.out g_ o_ f_ h_0) hb); clear KP; have KP := kp_; clear kp_; have n3_ := Aside0.mk (blk_below (g := gb202) (o := .cells #[.slice none 0 0, .slice none 0 0] 29 (0, 0)) (by (with_reducible repeat (first | refine blk_drewN ?_ _ | refine blk_drew ?_ | refine blk_alloc ?_ _)); exact BK202.out) hb)
            have n4_ := Aside0.mk (blk_below (g := gb209) (o := .cells #[.slice Ao14 y203.length co14, .slice Ao13 y206.length co13] 29 (0, 0)) (by (with_reducible repeat (first | refine blk_drewN ?_ _ | refine blk_drew ?_ | refine blk_alloc ?_ _)); exact BK209.out) hb)
            have n5_ := Aside0.mk (blk_below (g := gb213) (o := .cells #[.slice Ao20 y210.length co20] 22 (0, 0)) (by (with_reducible repeat (first | refine blk_drewN ?_ _ | refine blk_drew ?_ | refine blk_alloc ?_ _)); exact BK213.out) hb)
            have n6_ := Aside0.mk (below_step (by repeat (first | (with_reducible first | exact HB.out | apply below_alloc | apply pw_below_drewN | apply below_drew1 | refine below_set ?_ GE202.out | refine below_set ?_ GE209.out | refine below_set ?_ GE213.out) | exact HB.out)) hb)
            clear HO205
            clear HO208
            clear BK202
            clear BK209
            clear BK213
            clear HB
            clear HO212
            have HO205 := n0_
            have HO208 := n1_
            have HO217 := n2_
            have BK202 := n3_
            have BK209 := n4_
            have BK213 := n5_
            have HB := n6_
            clear n0_ n1_ n2_ n3_ n4_ n5_ n6_
            clear hb ho27
            obtain ⟨Ao29, co29, eo29⟩ := Kd.N_slice HO217.out
            (first | subst eo29 | (injection eo29 with f1_ f2_ f3_; have f4_ := f1_.symm; have f5_ := f3_.symm; clear f1_ f2_ f3_; subst f4_; subst f5_))
            refine hK.out _ _ ⟨(blk_cell BK209.out 0).trans rfl, (blk_cell BK209.out 1).trans rfl, (blk_cell BK213.out 0).trans rfl⟩ (fun hHeld => ?_)
            clear hK K
            refine norm_ (a' := ?_) ?_ ?_
            rotate_left
            · show Act.put _ (some 22) _ = _
              simp only [Act.put, List.setIfInBounds_toArray, List.set_cons_zero, List.set_cons_succ, i64_w, i32_w]
              rfl
            refine two_ (i := 8) (j := 14) (Ni := some 23) (Nj := some 29) #[true, true, true, true, true, true, true, true, true, true, true, true, true, true, false, false, false, false, false, false, false, false] #[true, true, true, true, true, true, true, true, false, true, true, true, true, true, true, false, false, false, false, false, false, false] rfl rfl rfl rfl (two_of HT_.out (by kernel_rfl)) (by decide) (by decide) (fun K hK => ?_) (fun K hK => ?_)
            · skip
              refine Kd.N_append_rows_step (Go.Proofs.YtlhpejabdmejbaaW.OV.ownV h_ 2) (w0 := w) w.heap.size (by rfl) (.tmp 20) (.tmp 22) 23 22 (.slice none 0 0) 24 rfl Try.underlying23 info22 rfl (show 0 < 1 by decide) (by omega) (.slice Ao13 y206.length co13) y206 y215 _ _ _ (fun k_ => (w.heap.size ≤ k_) ∧ some k_ ≠ (.slice Ao14 y203.length co14 : Value).ownBlock ∧ k_ ≠ gb202 ∧ k_ ≠ gb209 ∧ k_ ≠ gb213) (fun k_ => ((fun k_ => (w.heap.size ≤ k_) ∧ some k_ ≠ (.slice Ao14 y203.length co14 : Value).ownBlock ∧ k_ ≠ gb202 ∧ k_ ≠ gb209 ∧ k_ ≠ gb213)) k_ ∧ some k_ ≠ (.slice Ao13 y206.length co13 : Value).ownBlock) rfl rfl ?aO ?aR (fun _ hk => hk) ?aF ?aB ?aS ?aL ?_
              (case aR => exact (by skip; exact Kd.N_F (Kd.N_mono (ok' := (fun k_ => ((fun k_ => (w.heap.size ≤ k_) ∧ some k_ ≠ (.slice Ao14 y203.length co14 : Value).ownBlock ∧ k_ ≠ gb202 ∧ k_ ≠ gb209 ∧ k_ ≠ gb213)) k_ ∧ some k_ ≠ (.slice Ao13 y206.length co13 : Value).ownBlock)) (HO217.out) (fun k_ hk => ⟨⟨hk.1, ⟨hk.2.1, ⟨hk.2.2.2.1, ⟨hk.2.2.2.2.1, hk.2.2.2.2.2⟩⟩⟩⟩, hk.2.2.1⟩))))
              (case aB => exact (by repeat (first | (with_reducible first | exact HB.out | apply below_alloc | apply pw_below_drewN | apply below_drew1 | refine below_set ?_ GE202.out | refine below_set ?_ GE209.out | refine below_set ?_ GE213.out) | exact HB.out)))
              (case aF => exact (fun k_ hk => ⟨(Nat.le_trans (below_size (by repeat (first | (with_reducible first | exact HB.out | apply below_alloc | apply pw_below_drewN | apply below_drew1 | refine below_set ?_ GE202.out | refine below_set ?_ GE209.out | refine below_set ?_ GE213.out) | exact HB.out))) hk), Kd.fresh' (Kd.R_lt (by (with_reducible repeat (first | apply Kd.R_alloc | apply Kd.R_drewN | apply Kd.R_drew)); exact HO205.out)) k_ hk, Kd.freshB (g := gb202) (o := .cells #[.slice none 0 0, .slice none 0 0] 29 (0, 0)) (by (with_reducible repeat (first | refine blk_drewN ?_ _ | refine blk_drew ?_ | refine blk_alloc ?_ _)); exact BK202.out) k_ hk, Kd.freshB (g := gb209) (o := .cells #[.slice Ao14 y203.length co14, .slice Ao13 y206.length co13] 29 (0, 0)) (by (with_reducible repeat (first | refine blk_drewN ?_ _ | refine blk_drew ?_ | refine blk_alloc ?_ _)); exact BK209.out) k_ hk, Kd.freshB (g := gb213) (o := .cells #[.slice Ao20 y210.length co20] 22 (0, 0)) (by (with_reducible repeat (first | refine blk_drewN ?_ _ | refine blk_drew ?_ | refine blk_alloc ?_ _)); exact BK213.out) k_ hk⟩))
              (case aO => exact (by (with_reducible repeat (first | apply Kd.N_alloc | apply Kd.N_drewN | apply Kd.N_drew)); exact Kd.N_mono HO208.out (fun _ hk => ⟨hk.1.1.1.1.1, ⟨hk.1.1.1.1.2.1, ⟨hk.1.1.1.1.2.2, ⟨hk.1.1.1.2, hk.1.2⟩⟩⟩⟩)))
              (case aS => exact (below_size (by repeat (first | (with_reducible first | exact HB.out | apply below_alloc | apply pw_below_drewN | apply below_drew1 | refine below_set ?_ GE202.out | refine below_set ?_ GE209.out | refine below_set ?_ GE213.out) | exact HB.out))))
              (case aL => have := LMc6.out; omega)
              intro v219 w28 ho hb hg hat
              have OL_ := Aside0.mk (Go.Proofs.YtlhpejabdmejbaaW.OV.own_at OB2.out hat (by (with_reducible repeat (first | refine Go.Proofs.YtlhpejabdmejbaaW.OV.sz_drewN ?_ _ | refine Go.Proofs.YtlhpejabdmejbaaW.OV.sz_drew ?_ | refine Go.Proofs.YtlhpejabdmejbaaW.OV.sz_alloc ?_ _)); exact SZ.out))
              rw [← Ny218.out] at ho
              have sz_ := Aside0.mk (Go.Proofs.YtlhpejabdmejbaaW.OV.sz_grown (by (with_reducible repeat (first | refine Go.Proofs.YtlhpejabdmejbaaW.OV.sz_drewN ?_ _ | refine Go.Proofs.YtlhpejabdmejbaaW.OV.sz_drew ?_ | refine Go.Proofs.YtlhpejabdmejbaaW.OV.sz_alloc ?_ _)); exact SZ.out) hg); clear SZ; have SZ := sz_; clear sz_; have kp_ := Aside0.mk (fun (g_ : Nat) (o_ : Obj) (f_ : g_ ≠ gb209 ∧ some g_ ≠ ob1 ∧ some g_ ≠ ob2) (h_0 : wi.heap[g_]? = some o_) => blk_grown (g := g_) (o := o_) (by (with_reducible repeat (first | refine blk_drewN ?_ _ | refine blk_drew ?_ | refine blk_alloc ?_ _)); exact KP.out g_ o_ f_ h_0) hg (fun e_ => f_.2.2 (e_.trans OB2.out.symm))); clear KP; have KP := kp_; clear kp_; have n0_ := Aside0.mk (blk_grown (g := gb202) (o := .cells #[.slice none 0 0, .slice none 0 0] 29 (0, 0)) (by (with_reducible repeat (first | refine blk_drewN ?_ _ | refine blk_drew ?_ | refine blk_alloc ?_ _)); exact BK202.out) hg (Kd.N_ne HO208.out BK202.out (by decide)))
              have n1_ := Aside0.mk (Kd.R_over' (by (with_reducible repeat (first | apply Kd.R_alloc | apply Kd.R_drewN | apply Kd.R_drew)); exact HO205.out) (Kd.N_typed (by (with_reducible repeat (first | apply Kd.N_alloc | apply Kd.N_drewN | apply Kd.N_drew)); exact HO208.out)) (by decide) hg)
              have n2_ := Aside0.mk (blk_grown (g := gb209) (o := .cells #[.slice Ao14 y203.length co14, .slice Ao13 y206.length co13] 29 (0, 0)) (by (with_reducible repeat (first | refine blk_drewN ?_ _ | refine blk_drew ?_ | refine blk_alloc ?_ _)); exact BK209.out) hg (Kd.N_ne HO208.out BK209.out (by decide)))
              have n3_ := Aside0.mk (blk_grown (g := gb213) (o := .cells #[.slice Ao20 y210.length co20] 22 (0, 0)) (by (with_reducible repeat (first | refine blk_drewN ?_ _ | refine blk_drew ?_ | refine blk_alloc ?_ _)); exact BK213.out) hg (Kd.N_away HO208.out (fun _ hk => hk.1.2)))
              have n4_ := Aside0.mk (Kd.N_afterv (ok := (fun k_ => (w.heap.size ≤ k_) ∧ some k_ ≠ (.slice Ao14 y203.length co14 : Value).ownBlock ∧ k_ ≠ gb202 ∧ k_ ≠ gb209 ∧ k_ ≠ gb213)) (by (with_reducible repeat (first | apply Kd.N_alloc | apply Kd.N_drewN | apply Kd.N_drew)); exact Kd.N_mono HO217.out (fun _ hk => ⟨⟨hk.1, ⟨hk.2.1, ⟨hk.2.2.2.1, ⟨hk.2.2.2.2.1, hk.2.2.2.2.2⟩⟩⟩⟩, hk.2.2.1⟩)) hg hat)
              have n5_ := Aside0.mk (hb)
              have n6_ := Aside0.mk (ho)
              clear BK202
              clear HO205
              clear BK209
              clear BK213
              clear HO217
              clear HB
              clear HO208
              have BK202 := n0_
              have HO205 := n1_
              have BK209 := n2_
              have BK213 := n3_
              have HO217 := n4_
              have HB := n5_
              have HO220 := n6_
              clear n0_ n1_ n2_ n3_ n4_ n5_ n6_
              clear ho hb hg hat
              refine hK.out _ _ ⟨(blk_cell BK209.out 0).trans rfl, (blk_cell BK209.out 1).trans rfl, (blk_cell BK213.out 0).trans rfl⟩ (fun hHeld => ?_)
              clear hK K
              refine norm_ (a' := ?_) ?_ ?_
              rotate_left
              · show Act.put _ (some 23) _ = _
                simp only [Act.put, List.setIfInBounds_toArray, List.set_cons_zero, List.set_cons_succ, i64_w, i32_w]
                rfl
              refine one_ (i := 14) (N := some 29) #[true, true, true, true, true, true, true, true, true, true, true, true, true, true, true, false, false, false, false, false, false, false] rfl rfl (one_of HT_.out (by kernel_rfl)) (by decide) (fun K hK => ?_)
              refine Kd.R_lit_step (Kd.int .i64) _ 2 ?hg (N := 29) ?hd (xs := ([a2] : List Int)) (inner := [.int .i64 a2]) (ok := fun _ => True) (okp := fun _ => True) ?hr ?hp (fun _ hk => hk) trivial (Below.refl _ _) (Nat.le_refl _) (by simp) ?_; (case hd => rfl); (case hg => rfl); (case hr => first | (go_simp; done) | (go_simp; rfl)); (case hp => exact (Reps.one (show Kd.M (Kd.int .i64) _ _ _ a2 [.int .i64 a2] from rfl) (Reps.none _ _)))
              intro v222 w30 ho31 hb hg_ hnew_
              clear hg_ hnew_
              (first | rw [← Ny221.out] at ho31 | (simp only [Int.reduceToNat] at ho31; rw [← Ny221.out] at ho31))
              have n0_ := Aside0.mk (Kd.R_elder' (by (with_reducible repeat (first | apply Kd.R_alloc | apply Kd.R_drewN | apply Kd.R_drew)); exact HO205.out) (Kd.R_base ho31) hb)
              have n1_ := Aside0.mk (Kd.N_elder' (by (with_reducible repeat (first | apply Kd.N_alloc | apply Kd.N_drewN | apply Kd.N_drew)); exact HO217.out) (Kd.R_base ho31) hb)
              have n2_ := Aside0.mk (Kd.N_elder' (by (with_reducible repeat (first | apply Kd.N_alloc | apply Kd.N_drewN | apply Kd.N_drew)); exact HO220.out) (Kd.R_base ho31) hb)
              have n3_ := Aside0.mk (Kd.R_lower (Kd.R_new' (Kd.R_newM (M := fun k_ => (w.heap.size ≤ k_)) ho31 (below_size (by repeat (first | (with_reducible first | exact HB.out | apply below_alloc | apply pw_below_drewN | apply below_drew1 | refine below_set ?_ GE202.out | refine below_set ?_ GE209.out | refine below_set ?_ GE213.out) | exact HB.out))) (fun k_ h_ => h_)) (Kd.R_lt (by (with_reducible repeat (first | apply Kd.R_alloc | apply Kd.R_drewN | apply Kd.R_drew)); exact HO205.out))) (below_size (by repeat (first | (with_reducible first | exact HB.out | apply below_alloc | apply pw_below_drewN | apply below_drew1 | refine below_set ?_ GE202.out | refine below_set ?_ GE209.out | refine below_set ?_ GE213.out) | exact HB.out))))
              have sz_ := Aside0.mk (Go.Proofs.YtlhpejabdmejbaaW.OV.sz_below (by (with_reducible repeat (first | refine Go.Proofs.YtlhpejabdmejbaaW.OV.sz_drewN ?_ _ | refine Go.Proofs.YtlhpejabdmejbaaW.OV.sz_drew ?_ | refine Go.Proofs.YtlhpejabdmejbaaW.OV.sz_alloc ?_ _)); exact SZ.out) hb); clear SZ; have SZ := sz_; clear sz_; have kp_ := Aside0.mk (fun (g_ : Nat) (o_ : Obj) (f_ : g_ ≠ gb209 ∧ some g_ ≠ ob1 ∧ some g_ ≠ ob2) (h_0 : wi.heap[g_]? = some o_) => blk_below (g := g_) (o := o_) (by (with_reducible repeat (first | refine blk_drewN ?_ _ | refine blk_drew ?_ | refine blk_alloc ?_ _)); exact KP.out g_ o_ f_ h_0) hb); clear KP; have KP := kp_; clear kp_; have n4_ := Aside0.mk (blk_below (g := gb202) (o := .cells #[.slice none 0 0, .slice none 0 0] 29 (0, 0)) (by (with_reducible repeat (first | refine blk_drewN ?_ _ | refine blk_drew ?_ | refine blk_alloc ?_ _)); exact BK202.out) hb)
              have n5_ := Aside0.mk (blk_below (g := gb209) (o := .cells #[.slice Ao14 y203.length co14, .slice Ao13 y206.length co13] 29 (0, 0)) (by (with_reducible repeat (first | refine blk_drewN ?_ _ | refine blk_drew ?_ | refine blk_alloc ?_ _)); exact BK209.out) hb)
              have n6_ := Aside0.mk (blk_below (g := gb213) (o := .cells #[.slice Ao20 y210.length co20] 22 (0, 0)) (by (with_reducible repeat (first | refine blk_drewN ?_ _ | refine blk_drew ?_ | refine blk_alloc ?_ _)); exact BK213.out) hb)
              have n7_ := Aside0.mk (below_step (by repeat (first | (with_reducible first | exact HB.out | apply below_alloc | apply pw_below_drewN | apply below_drew1 | refine below_set ?_ GE202.out | refine below_set ?_ GE209.out | refine below_set ?_ GE213.out) | exact HB.out)) hb)
              clear HO205
              clear HO217
              clear HO220
              clear BK202
              clear BK209
              clear BK213
              clear HB
              have HO205 := n0_
              have HO217 := n1_
              have HO220 := n2_
              have HO223 := n3_
              have BK202 := n4_
              have BK209 := n5_
              have BK213 := n6_
              have HB := n7_
              clear n0_ n1_ n2_ n3_ n4_ n5_ n6_ n7_
              clear hb ho31
              refine hK.out _ _ ⟨(blk_cell BK209.out 0).trans rfl, (blk_cell BK209.out 1).trans rfl, (blk_cell BK213.out 0).trans rfl⟩ (fun hHeld => ?_)
              clear hK K
              refine norm_ (a' := ?_) ?_ ?_
              rotate_left
              · show Act.put _ (some 29) _ = _
                simp only [Act.put, List.setIfInBounds_toArray, List.set_cons_zero, List.set_cons_succ, i64_w, i32_w]
                rfl
              exact norm_ (by simp only [putAll, Act.put, List.setIfInBounds_toArray, List.set_cons_zero, List.set_cons_succ]) (hCont (.slice Ao29 y215.length co29, v219, v222) _ ⟨hHeld, (by (with_reducible repeat (first | apply Kd.R_alloc | apply Kd.R_drewN | apply Kd.R_drew)); exact Kd.R_mono HO205.out (fun _ hk => ⟨hk.1.1.1, hk.2⟩)), (by (with_reducible repeat (first | apply Kd.N_alloc | apply Kd.N_drewN | apply Kd.N_drew)); exact Kd.N_mono HO217.out (fun _ hk => ⟨hk.1.1.1, ⟨hk.1.1.2.1, ⟨hk.1.2, ⟨hk.2, ⟨hk.1.1.2.2.1, ⟨hk.1.1.2.2.2.1, hk.1.1.2.2.2.2⟩⟩⟩⟩⟩⟩)), (by (with_reducible repeat (first | apply Kd.N_alloc | apply Kd.N_drewN | apply Kd.N_drew)); exact Kd.N_mono HO220.out (fun _ hk => ⟨hk.1.1, ⟨hk.1.2.1, ⟨hk.2, ⟨hk.1.2.2.1, ⟨hk.1.2.2.2.1, hk.1.2.2.2.2⟩⟩⟩⟩⟩)), (by (with_reducible repeat (first | apply Kd.R_alloc | apply Kd.R_drewN | apply Kd.R_drew)); exact Kd.R_mono HO223.out (fun _ hk => ⟨hk.1.1, hk.2⟩)), (⟨by (with_reducible repeat (first | refine blk_drewN ?_ _ | refine blk_drew ?_ | refine blk_alloc ?_ _)); exact BK202.out, fun g_ o_ f_ h_0 => by (with_reducible repeat (first | refine blk_drewN ?_ _ | refine blk_drew ?_ | refine blk_alloc ?_ _)); exact KP.out g_ o_ f_ h_0, (by (with_reducible repeat (first | refine Go.Proofs.YtlhpejabdmejbaaW.OV.sz_drewN ?_ _ | refine Go.Proofs.YtlhpejabdmejbaaW.OV.sz_drew ?_ | refine Go.Proofs.YtlhpejabdmejbaaW.OV.sz_alloc ?_ _)); exact SZ.out), OL_.out⟩), (by (with_reducible repeat (first | refine blk_drewN ?_ _ | refine blk_drew ?_ | refine blk_alloc ?_ _)); exact BK209.out), (by (with_reducible repeat (first | refine blk_drewN ?_ _ | refine blk_drew ?_ | refine blk_alloc ?_ _)); exact BK213.out), (by repeat (first | (with_reducible first | exact HB.out | apply below_alloc | apply pw_below_drewN | apply below_drew1 | refine below_set ?_ GE202.out | refine below_set ?_ GE209.out | refine below_set ?_ GE213.out) | exact HB.out))⟩)
            · skip
              refine Kd.R_lit_step (Kd.int .i64) _ 2 ?hg (N := 29) ?hd (xs := ([a2] : List Int)) (inner := [.int .i64 a2]) (ok := fun _ => True) (okp := fun _ => True) ?hr ?hp (fun _ hk => hk) trivial (Below.refl _ _) (Nat.le_refl _) (by simp) ?_; (case hd => rfl); (case hg => rfl); (case hr => first | (go_simp; done) | (go_simp; rfl)); (case hp => exact (Reps.one (show Kd.M (Kd.int .i64) _ _ _ a2 [.int .i64 a2] from rfl) (Reps.none _ _)))
              intro v222 w28 ho29 hb hg_ hnew_
              clear hg_ hnew_
              (first | rw [← Ny221.out] at ho29 | (simp only [Int.reduceToNat] at ho29; rw [← Ny221.out] at ho29))
              have n0_ := Aside0.mk (Kd.R_elder' (by (with_reducible repeat (first | apply Kd.R_alloc | apply Kd.R_drewN | apply Kd.R_drew)); exact HO205.out) (Kd.R_base ho29) hb)
              have n1_ := Aside0.mk (Kd.N_elder' (by (with_reducible repeat (first | apply Kd.N_alloc | apply Kd.N_drewN | apply Kd.N_drew)); exact HO208.out) (Kd.R_base ho29) hb)
              have n2_ := Aside0.mk (Kd.N_elder' (by (with_reducible repeat (first | apply Kd.N_alloc | apply Kd.N_drewN | apply Kd.N_drew)); exact HO217.out) (Kd.R_base ho29) hb)
              have n3_ := Aside0.mk (Kd.R_lower (Kd.R_new' (Kd.R_newM (M := fun k_ => (w.heap.size ≤ k_)) ho29 (below_size (by repeat (first | (with_reducible first | exact HB.out | apply below_alloc | apply pw_below_drewN | apply below_drew1 | refine below_set ?_ GE202.out | refine below_set ?_ GE209.out | refine below_set ?_ GE213.out) | exact HB.out))) (fun k_ h_ => h_)) (Kd.R_lt (by (with_reducible repeat (first | apply Kd.R_alloc | apply Kd.R_drewN | apply Kd.R_drew)); exact HO205.out))) (below_size (by repeat (first | (with_reducible first | exact HB.out | apply below_alloc | apply pw_below_drewN | apply below_drew1 | refine below_set ?_ GE202.out | refine below_set ?_ GE209.out | refine below_set ?_ GE213.out) | exact HB.out))))
              have sz_ := Aside0.mk (Go.Proofs.YtlhpejabdmejbaaW.OV.sz_below (by (with_reducible repeat (first | refine Go.Proofs.YtlhpejabdmejbaaW.OV.sz_drewN ?_ _ | refine Go.Proofs.YtlhpejabdmejbaaW.OV.sz_drew ?_ | refine Go.Proofs.YtlhpejabdmejbaaW.OV.sz_alloc ?_ _)); exact SZ.out) hb); clear SZ; have SZ := sz_; clear sz_; have kp_ := Aside0.mk (fun (g_ : Nat) (o_ : Obj) (f_ : g_ ≠ gb209 ∧ some g_ ≠ ob1 ∧ some g_ ≠ ob2) (h_0 : wi.heap[g_]? = some o_) => blk_below (g := g_) (o := o_) (by (with_reducible repeat (first | refine blk_drewN ?_ _ | refine blk_drew ?_ | refine blk_alloc ?_ _)); exact KP.out g_ o_ f_ h_0) hb); clear KP; have KP := kp_; clear kp_; have n4_ := Aside0.mk (blk_below (g := gb202) (o := .cells #[.slice none 0 0, .slice none 0 0] 29 (0, 0)) (by (with_reducible repeat (first | refine blk_drewN ?_ _ | refine blk_drew ?_ | refine blk_alloc ?_ _)); exact BK202.out) hb)
              have n5_ := Aside0.mk (blk_below (g := gb209) (o := .cells #[.slice Ao14 y203.length co14, .slice Ao13 y206.length co13] 29 (0, 0)) (by (with_reducible repeat (first | refine blk_drewN ?_ _ | refine blk_drew ?_ | refine blk_alloc ?_ _)); exact BK209.out) hb)
              have n6_ := Aside0.mk (blk_below (g := gb213) (o := .cells #[.slice Ao20 y210.length co20] 22 (0, 0)) (by (with_reducible repeat (first | refine blk_drewN ?_ _ | refine blk_drew ?_ | refine blk_alloc ?_ _)); exact BK213.out) hb)
              have n7_ := Aside0.mk (below_step (by repeat (first | (with_reducible first | exact HB.out | apply below_alloc | apply pw_below_drewN | apply below_drew1 | refine below_set ?_ GE202.out | refine below_set ?_ GE209.out | refine below_set ?_ GE213.out) | exact HB.out)) hb)
              clear HO205
              clear HO208
              clear HO217
              clear BK202
              clear BK209
              clear BK213
              clear HB
              have HO205 := n0_
              have HO208 := n1_
              have HO217 := n2_
              have HO223 := n3_
              have BK202 := n4_
              have BK209 := n5_
              have BK213 := n6_
              have HB := n7_
              clear n0_ n1_ n2_ n3_ n4_ n5_ n6_ n7_
              clear hb ho29
              obtain ⟨Ao31, co31, eo31⟩ := Kd.N_slice HO217.out
              (first | subst eo31 | (injection eo31 with f1_ f2_ f3_; have f4_ := f1_.symm; have f5_ := f3_.symm; clear f1_ f2_ f3_; subst f4_; subst f5_))
              refine hK.out _ _ ⟨(blk_cell BK209.out 0).trans rfl, (blk_cell BK209.out 1).trans rfl, (blk_cell BK213.out 0).trans rfl⟩ (fun hHeld => ?_)
              clear hK K
              refine norm_ (a' := ?_) ?_ ?_
              rotate_left
              · show Act.put _ (some 29) _ = _
                simp only [Act.put, List.setIfInBounds_toArray, List.set_cons_zero, List.set_cons_succ, i64_w, i32_w]
                rfl
              refine one_ (i := 8) (N := some 23) #[true, true, true, true, true, true, true, true, true, true, true, true, true, true, true, false, false, false, false, false, false, false] rfl rfl (one_of HT_.out (by kernel_rfl)) (by decide) (fun K hK => ?_)
              refine Kd.N_append_rows_step (Go.Proofs.YtlhpejabdmejbaaW.OV.ownV h_ 2) (w0 := w) w.heap.size (by rfl) (.tmp 20) (.tmp 22) 23 22 (.slice none 0 0) 24 rfl Try.underlying23 info22 rfl (show 0 < 1 by decide) (by omega) (.slice Ao13 y206.length co13) y206 y215 _ _ _ (fun k_ => (w.heap.size ≤ k_) ∧ some k_ ≠ (.slice Ao14 y203.length co14 : Value).ownBlock ∧ some k_ ≠ (v222 : Value).ownBlock ∧ k_ ≠ gb202 ∧ k_ ≠ gb209 ∧ k_ ≠ gb213) (fun k_ => ((fun k_ => (w.heap.size ≤ k_) ∧ some k_ ≠ (.slice Ao14 y203.length co14 : Value).ownBlock ∧ some k_ ≠ (v222 : Value).ownBlock ∧ k_ ≠ gb202 ∧ k_ ≠ gb209 ∧ k_ ≠ gb213)) k_ ∧ some k_ ≠ (.slice Ao13 y206.length co13 : Value).ownBlock) rfl rfl ?aO ?aR (fun _ hk => hk) ?aF ?aB ?aS ?aL ?_
              (case aR => exact (by skip; exact Kd.N_F (Kd.N_mono (ok' := (fun k_ => ((fun k_ => (w.heap.size ≤ k_) ∧ some k_ ≠ (.slice Ao14 y203.length co14 : Value).ownBlock ∧ some k_ ≠ (v222 : Value).ownBlock ∧ k_ ≠ gb202 ∧ k_ ≠ gb209 ∧ k_ ≠ gb213)) k_ ∧ some k_ ≠ (.slice Ao13 y206.length co13 : Value).ownBlock)) (HO217.out) (fun k_ hk => ⟨⟨hk.1.1, ⟨hk.1.2.1, ⟨hk.2, ⟨hk.1.2.2.2.1, ⟨hk.1.2.2.2.2.1, hk.1.2.2.2.2.2⟩⟩⟩⟩⟩, hk.1.2.2.1⟩))))
              (case aB => exact (by repeat (first | (with_reducible first | exact HB.out | apply below_alloc | apply pw_below_drewN | apply below_drew1 | refine below_set ?_ GE202.out | refine below_set ?_ GE209.out | refine below_set ?_ GE213.out) | exact HB.out)))
              (case aF => exact (fun k_ hk => ⟨(Nat.le_trans (below_size (by repeat (first | (with_reducible first | exact HB.out | apply below_alloc | apply pw_below_drewN | apply below_drew1 | refine below_set ?_ GE202.out | refine below_set ?_ GE209.out | refine below_set ?_ GE213.out) | exact HB.out))) hk), Kd.fresh' (Kd.R_lt (by (with_reducible repeat (first | apply Kd.R_alloc | apply Kd.R_drewN | apply Kd.R_drew)); exact HO205.out)) k_ hk, Kd.fresh' (Kd.R_lt (by (with_reducible repeat (first | apply Kd.R_alloc | apply Kd.R_drewN | apply Kd.R_drew)); exact HO223.out)) k_ hk, Kd.freshB (g := gb202) (o := .cells #[.slice none 0 0, .slice none 0 0] 29 (0, 0)) (by (with_reducible repeat (first | refine blk_drewN ?_ _ | refine blk_drew ?_ | refine blk_alloc ?_ _)); exact BK202.out) k_ hk, Kd.freshB (g := gb209) (o := .cells #[.slice Ao14 y203.length co14, .slice Ao13 y206.length co13] 29 (0, 0)) (by (with_reducible repeat (first | refine blk_drewN ?_ _ | refine blk_drew ?_ | refine blk_alloc ?_ _)); exact BK209.out) k_ hk, Kd.freshB (g := gb213) (o := .cells #[.slice Ao20 y210.length co20] 22 (0, 0)) (by (with_reducible repeat (first | refine blk_drewN ?_ _ | refine blk_drew ?_ | refine blk_alloc ?_ _)); exact BK213.out) k_ hk⟩))
              (case aO => exact (by (with_reducible repeat (first | apply Kd.N_alloc | apply Kd.N_drewN | apply Kd.N_drew)); exact Kd.N_mono HO208.out (fun _ hk => ⟨hk.1.1.1.1.1.1, ⟨hk.1.1.1.1.1.2.1, ⟨hk.2, ⟨hk.1.1.1.1.1.2.2, ⟨hk.1.1.1.1.2, hk.1.1.2⟩⟩⟩⟩⟩)))
              (case aS => exact (below_size (by repeat (first | (with_reducible first | exact HB.out | apply below_alloc | apply pw_below_drewN | apply below_drew1 | refine below_set ?_ GE202.out | refine below_set ?_ GE209.out | refine below_set ?_ GE213.out) | exact HB.out))))
              (case aL => have := LMc6.out; omega)
              intro v219 w30 ho hb hg hat
              have OL_ := Aside0.mk (Go.Proofs.YtlhpejabdmejbaaW.OV.own_at OB2.out hat (by (with_reducible repeat (first | refine Go.Proofs.YtlhpejabdmejbaaW.OV.sz_drewN ?_ _ | refine Go.Proofs.YtlhpejabdmejbaaW.OV.sz_drew ?_ | refine Go.Proofs.YtlhpejabdmejbaaW.OV.sz_alloc ?_ _)); exact SZ.out))
              rw [← Ny218.out] at ho
              have sz_ := Aside0.mk (Go.Proofs.YtlhpejabdmejbaaW.OV.sz_grown (by (with_reducible repeat (first | refine Go.Proofs.YtlhpejabdmejbaaW.OV.sz_drewN ?_ _ | refine Go.Proofs.YtlhpejabdmejbaaW.OV.sz_drew ?_ | refine Go.Proofs.YtlhpejabdmejbaaW.OV.sz_alloc ?_ _)); exact SZ.out) hg); clear SZ; have SZ := sz_; clear sz_; have kp_ := Aside0.mk (fun (g_ : Nat) (o_ : Obj) (f_ : g_ ≠ gb209 ∧ some g_ ≠ ob1 ∧ some g_ ≠ ob2) (h_0 : wi.heap[g_]? = some o_) => blk_grown (g := g_) (o := o_) (by (with_reducible repeat (first | refine blk_drewN ?_ _ | refine blk_drew ?_ | refine blk_alloc ?_ _)); exact KP.out g_ o_ f_ h_0) hg (fun e_ => f_.2.2 (e_.trans OB2.out.symm))); clear KP; have KP := kp_; clear kp_; have n0_ := Aside0.mk (blk_grown (g := gb202) (o := .cells #[.slice none 0 0, .slice none 0 0] 29 (0, 0)) (by (with_reducible repeat (first | refine blk_drewN ?_ _ | refine blk_drew ?_ | refine blk_alloc ?_ _)); exact BK202.out) hg (Kd.N_ne HO208.out BK202.out (by decide)))
              have n1_ := Aside0.mk (Kd.R_over' (by (with_reducible repeat (first | apply Kd.R_alloc | apply Kd.R_drewN | apply Kd.R_drew)); exact HO205.out) (Kd.N_typed (by (with_reducible repeat (first | apply Kd.N_alloc | apply Kd.N_drewN | apply Kd.N_drew)); exact HO208.out)) (by decide) hg)
              have n2_ := Aside0.mk (blk_grown (g := gb209) (o := .cells #[.slice Ao14 y203.length co14, .slice Ao13 y206.length co13] 29 (0, 0)) (by (with_reducible repeat (first | refine blk_drewN ?_ _ | refine blk_drew ?_ | refine blk_alloc ?_ _)); exact BK209.out) hg (Kd.N_ne HO208.out BK209.out (by decide)))
              have n3_ := Aside0.mk (blk_grown (g := gb213) (o := .cells #[.slice Ao20 y210.length co20] 22 (0, 0)) (by (with_reducible repeat (first | refine blk_drewN ?_ _ | refine blk_drew ?_ | refine blk_alloc ?_ _)); exact BK213.out) hg (Kd.N_away HO208.out (fun _ hk => hk.1.1.2)))
              have n4_ := Aside0.mk (Kd.N_afterv (ok := (fun k_ => (w.heap.size ≤ k_) ∧ some k_ ≠ (.slice Ao14 y203.length co14 : Value).ownBlock ∧ some k_ ≠ (v222 : Value).ownBlock ∧ k_ ≠ gb202 ∧ k_ ≠ gb209 ∧ k_ ≠ gb213)) (by (with_reducible repeat (first | apply Kd.N_alloc | apply Kd.N_drewN | apply Kd.N_drew)); exact Kd.N_mono HO217.out (fun _ hk => ⟨⟨hk.1.1, ⟨hk.1.2.1, ⟨hk.2, ⟨hk.1.2.2.2.1, ⟨hk.1.2.2.2.2.1, hk.1.2.2.2.2.2⟩⟩⟩⟩⟩, hk.1.2.2.1⟩)) hg hat)
              have n5_ := Aside0.mk (Kd.R_over' (by (with_reducible repeat (first | apply Kd.R_alloc | apply Kd.R_drewN | apply Kd.R_drew)); exact HO223.out) (Kd.N_typed (by (with_reducible repeat (first | apply Kd.N_alloc | apply Kd.N_drewN | apply Kd.N_drew)); exact HO208.out)) (by decide) hg)
              have n6_ := Aside0.mk (hb)
              have n7_ := Aside0.mk (ho)
              clear BK202
              clear HO205
              clear BK209
              clear BK213
              clear HO217
              clear HO223
              clear HB
              clear HO208
              have BK202 := n0_
              have HO205 := n1_
              have BK209 := n2_
              have BK213 := n3_
              have HO217 := n4_
              have HO223 := n5_
              have HB := n6_
              have HO220 := n7_
              clear n0_ n1_ n2_ n3_ n4_ n5_ n6_ n7_
              clear ho hb hg hat
              refine hK.out _ _ ⟨(blk_cell BK209.out 0).trans rfl, (blk_cell BK209.out 1).trans rfl, (blk_cell BK213.out 0).trans rfl⟩ (fun hHeld => ?_)
              clear hK K
              refine norm_ (a' := ?_) ?_ ?_
              rotate_left
              · show Act.put _ (some 23) _ = _
                simp only [Act.put, List.setIfInBounds_toArray, List.set_cons_zero, List.set_cons_succ, i64_w, i32_w]
                rfl
              exact norm_ (by simp only [putAll, Act.put, List.setIfInBounds_toArray, List.set_cons_zero, List.set_cons_succ]) (hCont (.slice Ao31 y215.length co31, v219, v222) _ ⟨hHeld, (by (with_reducible repeat (first | apply Kd.R_alloc | apply Kd.R_drewN | apply Kd.R_drew)); exact Kd.R_mono HO205.out (fun _ hk => ⟨hk.1.1.1, hk.2⟩)), (by (with_reducible repeat (first | apply Kd.N_alloc | apply Kd.N_drewN | apply Kd.N_drew)); exact Kd.N_mono HO217.out (fun _ hk => ⟨hk.1.1, ⟨hk.1.2.1, ⟨hk.2, ⟨hk.1.2.2.1, ⟨hk.1.2.2.2.1, ⟨hk.1.2.2.2.2.1, hk.1.2.2.2.2.2⟩⟩⟩⟩⟩⟩)), (by (with_reducible repeat (first | apply Kd.N_alloc | apply Kd.N_drewN | apply Kd.N_drew)); exact HO220.out), (by (with_reducible repeat (first | apply Kd.R_alloc | apply Kd.R_drewN | apply Kd.R_drew)); exact Kd.R_mono HO223.out (fun _ hk => ⟨hk.1.1, hk.2⟩)), (⟨by (with_reducible repeat (first | refine blk_drewN ?_ _ | refine blk_drew ?_ | refine blk_alloc ?_ _)); exact BK202.out, fun g_ o_ f_ h_0 => by (with_reducible repeat (first | refine blk_drewN ?_ _ | refine blk_drew ?_ | refine blk_alloc ?_ _)); exact KP.out g_ o_ f_ h_0, (by (with_reducible repeat (first | refine Go.Proofs.YtlhpejabdmejbaaW.OV.sz_drewN ?_ _ | refine Go.Proofs.YtlhpejabdmejbaaW.OV.sz_drew ?_ | refine Go.Proofs.YtlhpejabdmejbaaW.OV.sz_alloc ?_ _)); exact SZ.out), OL_.out⟩), (by (with_reducible repeat (first | refine blk_drewN ?_ _ | refine blk_drew ?_ | refine blk_alloc ?_ _)); exact BK209.out), (by (with_reducible repeat (first | refine blk_drewN ?_ _ | refine blk_drew ?_ | refine blk_alloc ?_ _)); exact BK213.out), (by repeat (first | (with_reducible first | exact HB.out | apply below_alloc | apply pw_below_drewN | apply below_drew1 | refine below_set ?_ GE202.out | refine below_set ?_ GE209.out | refine below_set ?_ GE213.out) | exact HB.out))⟩)
          · skip
            refine Kd.R_lit_step (Kd.int .i64) _ 2 ?hg (N := 29) ?hd (xs := ([a2] : List Int)) (inner := [.int .i64 a2]) (ok := fun _ => True) (okp := fun _ => True) ?hr ?hp (fun _ hk => hk) trivial (Below.refl _ _) (Nat.le_refl _) (by simp) ?_; (case hd => rfl); (case hg => rfl); (case hr => first | (go_simp; done) | (go_simp; rfl)); (case hp => exact (Reps.one (show Kd.M (Kd.int .i64) _ _ _ a2 [.int .i64 a2] from rfl) (Reps.none _ _)))
            intro v222 w26 ho27 hb hg_ hnew_
            clear hg_ hnew_
            (first | rw [← Ny221.out] at ho27 | (simp only [Int.reduceToNat] at ho27; rw [← Ny221.out] at ho27))
            have n0_ := Aside0.mk (Kd.R_elder' (by (with_reducible repeat (first | apply Kd.R_alloc | apply Kd.R_drewN | apply Kd.R_drew)); exact HO205.out) (Kd.R_base ho27) hb)
            have n1_ := Aside0.mk (Kd.N_elder' (by (with_reducible repeat (first | apply Kd.N_alloc | apply Kd.N_drewN | apply Kd.N_drew)); exact HO208.out) (Kd.R_base ho27) hb)
            have n2_ := Aside0.mk (Kd.R_elder' (by (with_reducible repeat (first | apply Kd.R_alloc | apply Kd.R_drewN | apply Kd.R_drew)); exact HO212.out) (Kd.R_base ho27) hb)
            have n3_ := Aside0.mk (Kd.R_lower (Kd.R_new' (Kd.R_new' (Kd.R_newM (M := fun k_ => (w.heap.size ≤ k_)) ho27 (below_size (by repeat (first | (with_reducible first | exact HB.out | apply below_alloc | apply pw_below_drewN | apply below_drew1 | refine below_set ?_ GE202.out | refine below_set ?_ GE209.out | refine below_set ?_ GE213.out) | exact HB.out))) (fun k_ h_ => h_)) (Kd.R_lt (by (with_reducible repeat (first | apply Kd.R_alloc | apply Kd.R_drewN | apply Kd.R_drew)); exact HO205.out))) (Kd.R_lt (by (with_reducible repeat (first | apply Kd.R_alloc | apply Kd.R_drewN | apply Kd.R_drew)); exact HO212.out))) (below_size (by repeat (first | (with_reducible first | exact HB.out | apply below_alloc | apply pw_below_drewN | apply below_drew1 | refine below_set ?_ GE202.out | refine below_set ?_ GE209.out | refine below_set ?_ GE213.out) | exact HB.out))))
            have sz_ := Aside0.mk (Go.Proofs.YtlhpejabdmejbaaW.OV.sz_below (by (with_reducible repeat (first | refine Go.Proofs.YtlhpejabdmejbaaW.OV.sz_drewN ?_ _ | refine Go.Proofs.YtlhpejabdmejbaaW.OV.sz_drew ?_ | refine Go.Proofs.YtlhpejabdmejbaaW.OV.sz_alloc ?_ _)); exact SZ.out) hb); clear SZ; have SZ := sz_; clear sz_; have kp_ := Aside0.mk (fun (g_ : Nat) (o_ : Obj) (f_ : g_ ≠ gb209 ∧ some g_ ≠ ob1 ∧ some g_ ≠ ob2) (h_0 : wi.heap[g_]? = some o_) => blk_below (g := g_) (o := o_) (by (with_reducible repeat (first | refine blk_drewN ?_ _ | refine blk_drew ?_ | refine blk_alloc ?_ _)); exact KP.out g_ o_ f_ h_0) hb); clear KP; have KP := kp_; clear kp_; have n4_ := Aside0.mk (blk_below (g := gb202) (o := .cells #[.slice none 0 0, .slice none 0 0] 29 (0, 0)) (by (with_reducible repeat (first | refine blk_drewN ?_ _ | refine blk_drew ?_ | refine blk_alloc ?_ _)); exact BK202.out) hb)
            have n5_ := Aside0.mk (blk_below (g := gb209) (o := .cells #[.slice Ao14 y203.length co14, .slice Ao13 y206.length co13] 29 (0, 0)) (by (with_reducible repeat (first | refine blk_drewN ?_ _ | refine blk_drew ?_ | refine blk_alloc ?_ _)); exact BK209.out) hb)
            have n6_ := Aside0.mk (blk_below (g := gb213) (o := .cells #[.slice Ao20 y210.length co20] 22 (0, 0)) (by (with_reducible repeat (first | refine blk_drewN ?_ _ | refine blk_drew ?_ | refine blk_alloc ?_ _)); exact BK213.out) hb)
            have n7_ := Aside0.mk (below_step (by repeat (first | (with_reducible first | exact HB.out | apply below_alloc | apply pw_below_drewN | apply below_drew1 | refine below_set ?_ GE202.out | refine below_set ?_ GE209.out | refine below_set ?_ GE213.out) | exact HB.out)) hb)
            clear HO205
            clear HO208
            clear HO212
            clear BK202
            clear BK209
            clear BK213
            clear HB
            have HO205 := n0_
            have HO208 := n1_
            have HO212 := n2_
            have HO223 := n3_
            have BK202 := n4_
            have BK209 := n5_
            have BK213 := n6_
            have HB := n7_
            clear n0_ n1_ n2_ n3_ n4_ n5_ n6_ n7_
            clear hb ho27
            refine hK.out _ _ ⟨(blk_cell BK209.out 0).trans rfl, (blk_cell BK209.out 1).trans rfl, (blk_cell BK213.out 0).trans rfl⟩ (fun hHeld => ?_)
            clear hK K
            refine norm_ (a' := ?_) ?_ ?_
            rotate_left
            · show Act.put _ (some 29) _ = _
              simp only [Act.put, List.setIfInBounds_toArray, List.set_cons_zero, List.set_cons_succ, i64_w, i32_w]
              rfl
            refine one_ (i := 7) (N := some 22) #[true, true, true, true, true, true, true, true, false, true, true, true, true, true, true, false, false, false, false, false, false, false] rfl rfl (one_of HT_.out (by kernel_rfl)) (by decide) (fun K hK => ?_)
            refine Kd.N_lit_step (Go.Proofs.YtlhpejabdmejbaaW.OV.ownV h_ 2) _ 22 ?hg (N' := 22) ?hd (xs := ([y210] : List (List Int))) (inner := [.slice Ao20 y210.length co20]) (ok := (fun k_ => (w.heap.size ≤ k_) ∧ some k_ ≠ (.slice Ao14 y203.length co14 : Value).ownBlock ∧ some k_ ≠ (.slice Ao13 y206.length co13 : Value).ownBlock ∧ some k_ ≠ (v222 : Value).ownBlock ∧ k_ ≠ gb202 ∧ k_ ≠ gb209 ∧ k_ ≠ gb213)) (okp := (fun k_ => (w.heap.size ≤ k_) ∧ some k_ ≠ (.slice Ao14 y203.length co14 : Value).ownBlock ∧ some k_ ≠ (.slice Ao13 y206.length co13 : Value).ownBlock ∧ some k_ ≠ (v222 : Value).ownBlock ∧ k_ ≠ gb202 ∧ k_ ≠ gb209 ∧ k_ ≠ gb213)) ?hr ?hp (fun _ hk => hk) ((show ∀ k_, w26.heap.size ≤ k_ → (fun k_ => (w.heap.size ≤ k_) ∧ some k_ ≠ (.slice Ao14 y203.length co14 : Value).ownBlock ∧ some k_ ≠ (.slice Ao13 y206.length co13 : Value).ownBlock ∧ some k_ ≠ (v222 : Value).ownBlock ∧ k_ ≠ gb202 ∧ k_ ≠ gb209 ∧ k_ ≠ gb213) k_ from fun k_ hk => ⟨(Nat.le_trans (below_size (by repeat (first | (with_reducible first | exact HB.out | apply below_alloc | apply pw_below_drewN | apply below_drew1 | refine below_set ?_ GE202.out | refine below_set ?_ GE209.out | refine below_set ?_ GE213.out) | exact HB.out))) hk), Kd.fresh' (Kd.R_lt (by (with_reducible repeat (first | apply Kd.R_alloc | apply Kd.R_drewN | apply Kd.R_drew)); exact HO205.out)) k_ hk, Kd.fresh' (Kd.N_lt (by (with_reducible repeat (first | apply Kd.N_alloc | apply Kd.N_drewN | apply Kd.N_drew)); exact HO208.out)) k_ hk, Kd.fresh' (Kd.R_lt (by (with_reducible repeat (first | apply Kd.R_alloc | apply Kd.R_drewN | apply Kd.R_drew)); exact HO223.out)) k_ hk, Kd.freshB (g := gb202) (o := .cells #[.slice none 0 0, .slice none 0 0] 29 (0, 0)) (by (with_reducible repeat (first | refine blk_drewN ?_ _ | refine blk_drew ?_ | refine blk_alloc ?_ _)); exact BK202.out) k_ hk, Kd.freshB (g := gb209) (o := .cells #[.slice Ao14 y203.length co14, .slice Ao13 y206.length co13] 29 (0, 0)) (by (with_reducible repeat (first | refine blk_drewN ?_ _ | refine blk_drew ?_ | refine blk_alloc ?_ _)); exact BK209.out) k_ hk, Kd.freshB (g := gb213) (o := .cells #[.slice Ao20 y210.length co20] 22 (0, 0)) (by (with_reducible repeat (first | refine blk_drewN ?_ _ | refine blk_drew ?_ | refine blk_alloc ?_ _)); exact BK213.out) k_ hk⟩) _ (Nat.le_refl _)) (Below.refl _ _) (Nat.le_refl _) (by simp) ?_; (case hd => rfl); (case hg => rfl); (case hr => first | (go_simp; done) | (go_simp; rfl)); (case hp => exact (Reps.one (show Kd.FK (Go.Proofs.YtlhpejabdmejbaaW.OV.ownV h_ 2) _ _ y210 [.slice Ao20 y210.length co20] from (Kd.FK_mono (Go.Proofs.YtlhpejabdmejbaaW.OV.ownV_mk (Kd.R_mono (ok' := (fun k_ => ((fun k_ => (w.heap.size ≤ k_) ∧ some k_ ≠ (.slice Ao14 y203.length co14 : Value).ownBlock ∧ some k_ ≠ (.slice Ao13 y206.length co13 : Value).ownBlock ∧ some k_ ≠ (v222 : Value).ownBlock ∧ k_ ≠ gb202 ∧ k_ ≠ gb209 ∧ k_ ≠ gb213)) k_ ∧ h_ k_ = y210)) (Kd.R_types (Kd.R_types (Kd.R_types (Kd.R_apart' (HO212.out) (Kd.N_typed HO208.out) (by decide)) BK202.out (by decide)) BK209.out (by decide)) BK213.out (by decide)) (fun k_ hk => ⟨⟨hk.1.1.1.1.1.1.1, ⟨hk.1.1.1.1.1.2, ⟨hk.1.1.1.2, ⟨hk.1.1.1.1.2, ⟨hk.1.1.2, ⟨hk.1.2, hk.2⟩⟩⟩⟩⟩⟩, hk.1.1.1.1.1.1.2⟩)) (fun _ hk => hk.2)) (fun _ hk => hk.1))) (Reps.none _ _)))
            intro v216 w28 ho29 hb hg_ hnew_
            clear hg_ hnew_
            (first | rw [← Ny215.out] at ho29 | (simp only [Int.reduceToNat] at ho29; rw [← Ny215.out] at ho29))
            have n0_ := Aside0.mk (Kd.R_below (by (with_reducible repeat (first | apply Kd.R_alloc | apply Kd.R_drewN | apply Kd.R_drew)); exact HO205.out) hb)
            have n1_ := Aside0.mk (Kd.N_elder' (by (with_reducible repeat (first | apply Kd.N_alloc | apply Kd.N_drewN | apply Kd.N_drew)); exact HO208.out) (Kd.N_base ho29) hb)
            have n2_ := Aside0.mk (Kd.R_below (by (with_reducible repeat (first | apply Kd.R_alloc | apply Kd.R_drewN | apply Kd.R_drew)); exact HO223.out) hb)
            have n3_ := Aside0.mk (Kd.N_lower ho29 (below_size (by repeat (first | (with_reducible first | exact HB.out | apply below_alloc | apply pw_below_drewN | apply below_drew1 | refine below_set ?_ GE202.out | refine below_set ?_ GE209.out | refine below_set ?_ GE213.out) | exact HB.out))))
            have sz_ := Aside0.mk (Go.Proofs.YtlhpejabdmejbaaW.OV.sz_below (by (with_reducible repeat (first | refine Go.Proofs.YtlhpejabdmejbaaW.OV.sz_drewN ?_ _ | refine Go.Proofs.YtlhpejabdmejbaaW.OV.sz_drew ?_ | refine Go.Proofs.YtlhpejabdmejbaaW.OV.sz_alloc ?_ _)); exact SZ.out) hb); clear SZ; have SZ := sz_; clear sz_; have kp_ := Aside0.mk (fun (g_ : Nat) (o_ : Obj) (f_ : g_ ≠ gb209 ∧ some g_ ≠ ob1 ∧ some g_ ≠ ob2) (h_0 : wi.heap[g_]? = some o_) => blk_below (g := g_) (o := o_) (by (with_reducible repeat (first | refine blk_drewN ?_ _ | refine blk_drew ?_ | refine blk_alloc ?_ _)); exact KP.out g_ o_ f_ h_0) hb); clear KP; have KP := kp_; clear kp_; have n4_ := Aside0.mk (blk_below (g := gb202) (o := .cells #[.slice none 0 0, .slice none 0 0] 29 (0, 0)) (by (with_reducible repeat (first | refine blk_drewN ?_ _ | refine blk_drew ?_ | refine blk_alloc ?_ _)); exact BK202.out) hb)
            have n5_ := Aside0.mk (blk_below (g := gb209) (o := .cells #[.slice Ao14 y203.length co14, .slice Ao13 y206.length co13] 29 (0, 0)) (by (with_reducible repeat (first | refine blk_drewN ?_ _ | refine blk_drew ?_ | refine blk_alloc ?_ _)); exact BK209.out) hb)
            have n6_ := Aside0.mk (blk_below (g := gb213) (o := .cells #[.slice Ao20 y210.length co20] 22 (0, 0)) (by (with_reducible repeat (first | refine blk_drewN ?_ _ | refine blk_drew ?_ | refine blk_alloc ?_ _)); exact BK213.out) hb)
            have n7_ := Aside0.mk (below_step (by repeat (first | (with_reducible first | exact HB.out | apply below_alloc | apply pw_below_drewN | apply below_drew1 | refine below_set ?_ GE202.out | refine below_set ?_ GE209.out | refine below_set ?_ GE213.out) | exact HB.out)) hb)
            clear HO205
            clear HO208
            clear HO223
            clear BK202
            clear BK209
            clear BK213
            clear HB
            clear HO212
            have HO205 := n0_
            have HO208 := n1_
            have HO223 := n2_
            have HO217 := n3_
            have BK202 := n4_
            have BK209 := n5_
            have BK213 := n6_
            have HB := n7_
            clear n0_ n1_ n2_ n3_ n4_ n5_ n6_ n7_
            clear hb ho29
            obtain ⟨Ao31, co31, eo31⟩ := Kd.N_slice HO217.out
            (first | subst eo31 | (injection eo31 with f1_ f2_ f3_; have f4_ := f1_.symm; have f5_ := f3_.symm; clear f1_ f2_ f3_; subst f4_; subst f5_))
            refine hK.out _ _ ⟨(blk_cell BK209.out 0).trans rfl, (blk_cell BK209.out 1).trans rfl, (blk_cell BK213.out 0).trans rfl⟩ (fun hHeld => ?_)
            clear hK K
            refine norm_ (a' := ?_) ?_ ?_
            rotate_left
            · show Act.put _ (some 22) _ = _
              simp only [Act.put, List.setIfInBounds_toArray, List.set_cons_zero, List.set_cons_succ, i64_w, i32_w]
              rfl
            refine one_ (i := 8) (N := some 23) #[true, true, true, true, true, true, true, true, true, true, true, true, true, true, true, false, false, false, false, false, false, false] rfl rfl (one_of HT_.out (by kernel_rfl)) (by decide) (fun K hK => ?_)
            refine Kd.N_append_rows_step (Go.Proofs.YtlhpejabdmejbaaW.OV.ownV h_ 2) (w0 := w) w.heap.size (by rfl) (.tmp 20) (.tmp 22) 23 22 (.slice none 0 0) 24 rfl Try.underlying23 info22 rfl (show 0 < 1 by decide) (by omega) (.slice Ao13 y206.length co13) y206 y215 _ _ _ (fun k_ => (w.heap.size ≤ k_) ∧ some k_ ≠ (.slice Ao14 y203.length co14 : Value).ownBlock ∧ some k_ ≠ (v222 : Value).ownBlock ∧ k_ ≠ gb202 ∧ k_ ≠ gb209 ∧ k_ ≠ gb213) (fun k_ => ((fun k_ => (w.heap.size ≤ k_) ∧ some k_ ≠ (.slice Ao14 y203.length co14 : Value).ownBlock ∧ some k_ ≠ (v222 : Value).ownBlock ∧ k_ ≠ gb202 ∧ k_ ≠ gb209 ∧ k_ ≠ gb213)) k_ ∧ some k_ ≠ (.slice Ao13 y206.length co13 : Value).ownBlock) rfl rfl ?aO ?aR (fun _ hk => hk) ?aF ?aB ?aS ?aL ?_
            (case aR => exact (by skip; exact Kd.N_F (Kd.N_mono (ok' := (fun k_ => ((fun k_ => (w.heap.size ≤ k_) ∧ some k_ ≠ (.slice Ao14 y203.length co14 : Value).ownBlock ∧ some k_ ≠ (v222 : Value).ownBlock ∧ k_ ≠ gb202 ∧ k_ ≠ gb209 ∧ k_ ≠ gb213)) k_ ∧ some k_ ≠ (.slice Ao13 y206.length co13 : Value).ownBlock)) (HO217.out) (fun k_ hk => ⟨⟨hk.1, ⟨hk.2.1, ⟨hk.2.2.2.1, ⟨hk.2.2.2.2.1, ⟨hk.2.2.2.2.2.1, hk.2.2.2.2.2.2⟩⟩⟩⟩⟩, hk.2.2.1⟩))))
            (case aB => exact (by repeat (first | (with_reducible first | exact HB.out | apply below_alloc | apply pw_below_drewN | apply below_drew1 | refine below_set ?_ GE202.out | refine below_set ?_ GE209.out | refine below_set ?_ GE213.out) | exact HB.out)))
            (case aF => exact (fun k_ hk => ⟨(Nat.le_trans (below_size (by repeat (first | (with_reducible first | exact HB.out | apply below_alloc | apply pw_below_drewN | apply below_drew1 | refine below_set ?_ GE202.out | refine below_set ?_ GE209.out | refine below_set ?_ GE213.out) | exact HB.out))) hk), Kd.fresh' (Kd.R_lt (by (with_reducible repeat (first | apply Kd.R_alloc | apply Kd.R_drewN | apply Kd.R_drew)); exact HO205.out)) k_ hk, Kd.fresh' (Kd.R_lt (by (with_reducible repeat (first | apply Kd.R_alloc | apply Kd.R_drewN | apply Kd.R_drew)); exact HO223.out)) k_ hk, Kd.freshB (g := gb202) (o := .cells #[.slice none 0 0, .slice none 0 0] 29 (0, 0)) (by (with_reducible repeat (first | refine blk_drewN ?_ _ | refine blk_drew ?_ | refine blk_alloc ?_ _)); exact BK202.out) k_ hk, Kd.freshB (g := gb209) (o := .cells #[.slice Ao14 y203.length co14, .slice Ao13 y206.length co13] 29 (0, 0)) (by (with_reducible repeat (first | refine blk_drewN ?_ _ | refine blk_drew ?_ | refine blk_alloc ?_ _)); exact BK209.out) k_ hk, Kd.freshB (g := gb213) (o := .cells #[.slice Ao20 y210.length co20] 22 (0, 0)) (by (with_reducible repeat (first | refine blk_drewN ?_ _ | refine blk_drew ?_ | refine blk_alloc ?_ _)); exact BK213.out) k_ hk⟩))
            (case aO => exact (by (with_reducible repeat (first | apply Kd.N_alloc | apply Kd.N_drewN | apply Kd.N_drew)); exact Kd.N_mono HO208.out (fun _ hk => ⟨hk.1.1.1.1.1.1, ⟨hk.1.1.1.1.1.2.1, ⟨hk.1.2, ⟨hk.1.1.1.1.1.2.2, ⟨hk.1.1.1.1.2, hk.1.1.2⟩⟩⟩⟩⟩)))
            (case aS => exact (below_size (by repeat (first | (with_reducible first | exact HB.out | apply below_alloc | apply pw_below_drewN | apply below_drew1 | refine below_set ?_ GE202.out | refine below_set ?_ GE209.out | refine below_set ?_ GE213.out) | exact HB.out))))
            (case aL => have := LMc6.out; omega)
            intro v219 w30 ho hb hg hat
            have OL_ := Aside0.mk (Go.Proofs.YtlhpejabdmejbaaW.OV.own_at OB2.out hat (by (with_reducible repeat (first | refine Go.Proofs.YtlhpejabdmejbaaW.OV.sz_drewN ?_ _ | refine Go.Proofs.YtlhpejabdmejbaaW.OV.sz_drew ?_ | refine Go.Proofs.YtlhpejabdmejbaaW.OV.sz_alloc ?_ _)); exact SZ.out))
            rw [← Ny218.out] at ho
            have sz_ := Aside0.mk (Go.Proofs.YtlhpejabdmejbaaW.OV.sz_grown (by (with_reducible repeat (first | refine Go.Proofs.YtlhpejabdmejbaaW.OV.sz_drewN ?_ _ | refine Go.Proofs.YtlhpejabdmejbaaW.OV.sz_drew ?_ | refine Go.Proofs.YtlhpejabdmejbaaW.OV.sz_alloc ?_ _)); exact SZ.out) hg); clear SZ; have SZ := sz_; clear sz_; have kp_ := Aside0.mk (fun (g_ : Nat) (o_ : Obj) (f_ : g_ ≠ gb209 ∧ some g_ ≠ ob1 ∧ some g_ ≠ ob2) (h_0 : wi.heap[g_]? = some o_) => blk_grown (g := g_) (o := o_) (by (with_reducible repeat (first | refine blk_drewN ?_ _ | refine blk_drew ?_ | refine blk_alloc ?_ _)); exact KP.out g_ o_ f_ h_0) hg (fun e_ => f_.2.2 (e_.trans OB2.out.symm))); clear KP; have KP := kp_; clear kp_; have n0_ := Aside0.mk (blk_grown (g := gb202) (o := .cells #[.slice none 0 0, .slice none 0 0] 29 (0, 0)) (by (with_reducible repeat (first | refine blk_drewN ?_ _ | refine blk_drew ?_ | refine blk_alloc ?_ _)); exact BK202.out) hg (Kd.N_ne HO208.out BK202.out (by decide)))
            have n1_ := Aside0.mk (Kd.R_over' (by (with_reducible repeat (first | apply Kd.R_alloc | apply Kd.R_drewN | apply Kd.R_drew)); exact HO205.out) (Kd.N_typed (by (with_reducible repeat (first | apply Kd.N_alloc | apply Kd.N_drewN | apply Kd.N_drew)); exact HO208.out)) (by decide) hg)
            have n2_ := Aside0.mk (blk_grown (g := gb209) (o := .cells #[.slice Ao14 y203.length co14, .slice Ao13 y206.length co13] 29 (0, 0)) (by (with_reducible repeat (first | refine blk_drewN ?_ _ | refine blk_drew ?_ | refine blk_alloc ?_ _)); exact BK209.out) hg (Kd.N_ne HO208.out BK209.out (by decide)))
            have n3_ := Aside0.mk (blk_grown (g := gb213) (o := .cells #[.slice Ao20 y210.length co20] 22 (0, 0)) (by (with_reducible repeat (first | refine blk_drewN ?_ _ | refine blk_drew ?_ | refine blk_alloc ?_ _)); exact BK213.out) hg (Kd.N_away HO208.out (fun _ hk => hk.1.1.2)))
            have n4_ := Aside0.mk (Kd.R_over' (by (with_reducible repeat (first | apply Kd.R_alloc | apply Kd.R_drewN | apply Kd.R_drew)); exact HO223.out) (Kd.N_typed (by (with_reducible repeat (first | apply Kd.N_alloc | apply Kd.N_drewN | apply Kd.N_drew)); exact HO208.out)) (by decide) hg)
            have n5_ := Aside0.mk (Kd.N_afterv (ok := (fun k_ => (w.heap.size ≤ k_) ∧ some k_ ≠ (.slice Ao14 y203.length co14 : Value).ownBlock ∧ some k_ ≠ (v222 : Value).ownBlock ∧ k_ ≠ gb202 ∧ k_ ≠ gb209 ∧ k_ ≠ gb213)) (by (with_reducible repeat (first | apply Kd.N_alloc | apply Kd.N_drewN | apply Kd.N_drew)); exact Kd.N_mono HO217.out (fun _ hk => ⟨⟨hk.1, ⟨hk.2.1, ⟨hk.2.2.2.1, ⟨hk.2.2.2.2.1, ⟨hk.2.2.2.2.2.1, hk.2.2.2.2.2.2⟩⟩⟩⟩⟩, hk.2.2.1⟩)) hg hat)
            have n6_ := Aside0.mk (hb)
            have n7_ := Aside0.mk (ho)
            clear BK202
            clear HO205
            clear BK209
            clear BK213
            clear HO223
            clear HO217
            clear HB
            clear HO208
            have BK202 := n0_
            have HO205 := n1_
            have BK209 := n2_
            have BK213 := n3_
            have HO223 := n4_
            have HO217 := n5_
            have HB := n6_
            have HO220 := n7_
            clear n0_ n1_ n2_ n3_ n4_ n5_ n6_ n7_
            clear ho hb hg hat
            refine hK.out _ _ ⟨(blk_cell BK209.out 0).trans rfl, (blk_cell BK209.out 1).trans rfl, (blk_cell BK213.out 0).trans rfl⟩ (fun hHeld => ?_)
            clear hK K
            refine norm_ (a' := ?_) ?_ ?_
            rotate_left
            · show Act.put _ (some 23) _ = _
              simp only [Act.put, List.setIfInBounds_toArray, List.set_cons_zero, List.set_cons_succ, i64_w, i32_w]
              rfl
            exact norm_ (by simp only [putAll, Act.put, List.setIfInBounds_toArray, List.set_cons_zero, List.set_cons_succ]) (hCont (.slice Ao31 y215.length co31, v219, v222) _ ⟨hHeld, (by (with_reducible repeat (first | apply Kd.R_alloc | apply Kd.R_drewN | apply Kd.R_drew)); exact Kd.R_mono HO205.out (fun _ hk => ⟨hk.1.1.1, hk.2⟩)), (by (with_reducible repeat (first | apply Kd.N_alloc | apply Kd.N_drewN | apply Kd.N_drew)); exact Kd.N_mono HO217.out (fun _ hk => ⟨hk.1.1, ⟨hk.1.2.1, ⟨hk.2, ⟨hk.1.2.2.1, ⟨hk.1.2.2.2.1, ⟨hk.1.2.2.2.2.1, hk.1.2.2.2.2.2⟩⟩⟩⟩⟩⟩)), (by (with_reducible repeat (first | apply Kd.N_alloc | apply Kd.N_drewN | apply Kd.N_drew)); exact HO220.out), (by (with_reducible repeat (first | apply Kd.R_alloc | apply Kd.R_drewN | apply Kd.R_drew)); exact Kd.R_mono HO223.out (fun _ hk => ⟨hk.1.1.1, hk.1.2⟩)), (⟨by (with_reducible repeat (first | refine blk_drewN ?_ _ | refine blk_drew ?_ | refine blk_alloc ?_ _)); exact BK202.out, fun g_ o_ f_ h_0 => by (with_reducible repeat (first | refine blk_drewN ?_ _ | refine blk_drew ?_ | refine blk_alloc ?_ _)); exact KP.out g_ o_ f_ h_0, (by (with_reducible repeat (first | refine Go.Proofs.YtlhpejabdmejbaaW.OV.sz_drewN ?_ _ | refine Go.Proofs.YtlhpejabdmejbaaW.OV.sz_drew ?_ | refine Go.Proofs.YtlhpejabdmejbaaW.OV.sz_alloc ?_ _)); exact SZ.out), OL_.out⟩), (by (with_reducible repeat (first | refine blk_drewN ?_ _ | refine blk_drew ?_ | refine blk_alloc ?_ _)); exact BK209.out), (by (with_reducible repeat (first | refine blk_drewN ?_ _ | refine blk_drew ?_ | refine blk_alloc ?_ _)); exact BK213.out), (by repeat (first | (with_reducible first | exact HB.out | apply below_alloc | apply pw_below_drewN | apply below_drew1 | refine below_set ?_ GE202.out | refine below_set ?_ GE209.out | refine below_set ?_ GE213.out) | exact HB.out))⟩)
        rintro ⟨v216, v219, v222⟩ w32 ⟨hS_, h0_, h1_, h2_, h3_, h4_, h5_, h6_, h7_⟩
        have n0_ : Aside0 (Kd.R (Kd.int .i64) 2 w32 w.heap.size (fun k_ => (w.heap.size ≤ k_) ∧ some k_ ≠ (v222 : Value).ownBlock) (.slice Ao14 y203.length co14) y203) := ⟨h0_⟩
        have n1_ : Aside0 (Kd.N (Go.Proofs.YtlhpejabdmejbaaW.OV.ownV h_ 2) 22 w32 w.heap.size (fun k_ => (w.heap.size ≤ k_) ∧ some k_ ≠ (.slice Ao14 y203.length co14 : Value).ownBlock ∧ some k_ ≠ (v219 : Value).ownBlock ∧ some k_ ≠ (v222 : Value).ownBlock ∧ k_ ≠ gb202 ∧ k_ ≠ gb209 ∧ k_ ≠ gb213) v216 y215) := ⟨h1_⟩
        have n2_ : Aside0 (Kd.N (Go.Proofs.YtlhpejabdmejbaaW.OV.ownV h_ 2) 22 w32 w.heap.size (fun k_ => (w.heap.size ≤ k_) ∧ some k_ ≠ (.slice Ao14 y203.length co14 : Value).ownBlock ∧ some k_ ≠ (v222 : Value).ownBlock ∧ k_ ≠ gb202 ∧ k_ ≠ gb209 ∧ k_ ≠ gb213) v219 y218) := ⟨h2_⟩
        have n3_ : Aside0 (Kd.R (Kd.int .i64) 2 w32 w.heap.size (fun k_ => (w.heap.size ≤ k_) ∧ some k_ ≠ (.slice Ao14 y203.length co14 : Value).ownBlock) v222 y221) := ⟨h3_⟩
        have n4_ : Aside0 (w32.heap[gb202]? = some (.cells #[.slice none 0 0, .slice none 0 0] 29 (0, 0))) := ⟨h4_.1⟩; clear KP; have KP := Aside0.mk h4_.2.1; clear SZ; have SZ := Aside0.mk h4_.2.2.1; have OL_ := Aside0.mk h4_.2.2.2
        have n5_ : Aside0 (w32.heap[gb209]? = some (.cells #[.slice Ao14 y203.length co14, .slice Ao13 y206.length co13] 29 (0, 0))) := ⟨h5_⟩
        have n6_ : Aside0 (w32.heap[gb213]? = some (.cells #[.slice Ao20 y210.length co20] 22 (0, 0))) := ⟨h6_⟩
        have n7_ : Aside0 (Below w.heap.size w w32) := ⟨h7_⟩
        clear HO205
        clear HO208
        clear HO212
        clear BK202
        clear BK209
        clear BK213
        clear HB
        clear h0_ h1_ h2_ h3_ h4_ h5_ h6_ h7_
        have HO205 := n0_
        have HO217 := n1_
        have HO220 := n2_
        have HO223 := n3_
        have BK202 := n4_
        have BK209 := n5_
        have BK213 := n6_
        have HB := n7_
        clear n0_ n1_ n2_ n3_ n4_ n5_ n6_ n7_
        have hHeld : w32.cell? ⟨gb209, 0, none⟩ = some (.slice Ao14 y203.length co14) ∧ w32.cell? ⟨gb209, 1, none⟩ = some (.slice Ao13 y206.length co13) ∧ w32.cell? ⟨gb213, 0, none⟩ = some (.slice Ao20 y210.length co20) := hS_
        obtain ⟨Ao34, co34, eo34⟩ := Kd.R_slice HO223.out
        (first | subst eo34 | (injection eo34 with f1_ f2_ f3_; have f4_ := f1_.symm; have f5_ := f3_.symm; clear f1_ f2_ f3_; subst f4_; subst f5_))
        refine norm_ (a' := ?_) ?_ ?_
        rotate_left
        · simp only [putAll, Act.put, List.setIfInBounds_toArray, List.set_cons_zero, List.set_cons_succ]
          rfl
        refine one_ (i := 15) (N := some 30) #[true, true, true, true, true, true, true, true, true, true, true, true, true, true, true, true, false, false, false, false, false, false] rfl rfl (one_of HT_.out (by kernel_rfl)) (by decide) (fun K hK => ?_)
        refine Kd.R_append_rows_step (Kd.int .i64) (w0 := w) w.heap.size (by rfl) (.tmp 27) (.tmp 29) 22 2 (.int .i64 0) 8 rfl Try.underlying22 info2 rfl (by decide) (by omega) (.slice Ao14 y203.length co14) y203 y221 _ _ _ (fun k_ => (w.heap.size ≤ k_) ∧ some k_ ≠ (.slice Ao34 y221.length co34 : Value).ownBlock) (fun _ => False) rfl rfl ?aO ?aR (fun _ _ h => h) (fun _ h => h.elim) ?aF ?aB ?aS ?aL ?_
        (case aR => repeat (first | exact (Kd.R_reads' HO223.out).2.2 | (with_reducible refine Kd.C_alloc ?_ _) | (with_reducible refine Kd.C_drewN ?_ _) | (with_reducible refine Kd.C_drew ?_)))
        (case aB => exact (by repeat (first | (with_reducible first | exact HB.out | apply below_alloc | apply pw_below_drewN | apply below_drew1 | refine below_set ?_ GE202.out | refine below_set ?_ GE209.out | refine below_set ?_ GE213.out) | exact HB.out)))
        (case aF => exact (fun k_ hk => ⟨(Nat.le_trans (below_size (by repeat (first | (with_reducible first | exact HB.out | apply below_alloc | apply pw_below_drewN | apply below_drew1 | refine below_set ?_ GE202.out | refine below_set ?_ GE209.out | refine below_set ?_ GE213.out) | exact HB.out))) hk), Kd.fresh' (Kd.R_lt (by (with_reducible repeat (first | apply Kd.R_alloc | apply Kd.R_drewN | apply Kd.R_drew)); exact HO223.out)) k_ hk⟩))
        (case aO => exact (by (with_reducible repeat (first | apply Kd.R_alloc | apply Kd.R_drewN | apply Kd.R_drew)); exact HO205.out))
        (case aS => exact (below_size (by repeat (first | (with_reducible first | exact HB.out | apply below_alloc | apply pw_below_drewN | apply below_drew1 | refine below_set ?_ GE202.out | refine below_set ?_ GE209.out | refine below_set ?_ GE213.out) | exact HB.out))))
        (case aL => have := LMc7.out; omega)
        intro v225 w33 ho hb hg hat
        have OW_ := Aside0.mk (Go.Proofs.YtlhpejabdmejbaaW.OV.own_at OB1.out hat (by (with_reducible repeat (first | refine Go.Proofs.YtlhpejabdmejbaaW.OV.sz_drewN ?_ _ | refine Go.Proofs.YtlhpejabdmejbaaW.OV.sz_drew ?_ | refine Go.Proofs.YtlhpejabdmejbaaW.OV.sz_alloc ?_ _)); exact SZ.out))
        rw [← Ny224.out] at ho
        have sz_ := Aside0.mk (Go.Proofs.YtlhpejabdmejbaaW.OV.sz_grown (by (with_reducible repeat (first | refine Go.Proofs.YtlhpejabdmejbaaW.OV.sz_drewN ?_ _ | refine Go.Proofs.YtlhpejabdmejbaaW.OV.sz_drew ?_ | refine Go.Proofs.YtlhpejabdmejbaaW.OV.sz_alloc ?_ _)); exact SZ.out) hg); clear SZ; have SZ := sz_; clear sz_; have kp_ := Aside0.mk (fun (g_ : Nat) (o_ : Obj) (f_ : g_ ≠ gb209 ∧ some g_ ≠ ob1 ∧ some g_ ≠ ob2) (h_0 : wi.heap[g_]? = some o_) => blk_grown (g := g_) (o := o_) (by (with_reducible repeat (first | refine blk_drewN ?_ _ | refine blk_drew ?_ | refine blk_alloc ?_ _)); exact KP.out g_ o_ f_ h_0) hg (fun e_ => f_.2.1 (e_.trans OB1.out.symm))); clear KP; have KP := kp_; clear kp_; have n0_ := Aside0.mk (blk_grown (g := gb202) (o := .cells #[.slice none 0 0, .slice none 0 0] 29 (0, 0)) (by (with_reducible repeat (first | refine blk_drewN ?_ _ | refine blk_drew ?_ | refine blk_alloc ?_ _)); exact BK202.out) hg (Kd.R_ne HO205.out BK202.out (by decide)))
        have n1_ := Aside0.mk (blk_grown (g := gb209) (o := .cells #[.slice Ao14 y203.length co14, .slice Ao13 y206.length co13] 29 (0, 0)) (by (with_reducible repeat (first | refine blk_drewN ?_ _ | refine blk_drew ?_ | refine blk_alloc ?_ _)); exact BK209.out) hg (Kd.R_ne HO205.out BK209.out (by decide)))
        have n2_ := Aside0.mk (blk_grown (g := gb213) (o := .cells #[.slice Ao20 y210.length co20] 22 (0, 0)) (by (with_reducible repeat (first | refine blk_drewN ?_ _ | refine blk_drew ?_ | refine blk_alloc ?_ _)); exact BK213.out) hg (Kd.R_ne HO205.out BK213.out (by decide)))
        have n3_ := Aside0.mk (Kd.N_afterv (ok := (fun k_ => (w.heap.size ≤ k_) ∧ some k_ ≠ (v219 : Value).ownBlock ∧ some k_ ≠ (.slice Ao34 y221.length co34 : Value).ownBlock ∧ k_ ≠ gb202 ∧ k_ ≠ gb209 ∧ k_ ≠ gb213)) (by (with_reducible repeat (first | apply Kd.N_alloc | apply Kd.N_drewN | apply Kd.N_drew)); exact Kd.N_mono HO217.out (fun _ hk => ⟨⟨hk.1, ⟨hk.2.2.1, ⟨hk.2.2.2.1, ⟨hk.2.2.2.2.1, ⟨hk.2.2.2.2.2.1, hk.2.2.2.2.2.2⟩⟩⟩⟩⟩, hk.2.1⟩)) hg hat)
        have n4_ := Aside0.mk (Kd.N_afterv (ok := (fun k_ => (w.heap.size ≤ k_) ∧ some k_ ≠ (.slice Ao34 y221.length co34 : Value).ownBlock ∧ k_ ≠ gb202 ∧ k_ ≠ gb209 ∧ k_ ≠ gb213)) (by (with_reducible repeat (first | apply Kd.N_alloc | apply Kd.N_drewN | apply Kd.N_drew)); exact Kd.N_mono HO220.out (fun _ hk => ⟨⟨hk.1, ⟨hk.2.2.1, ⟨hk.2.2.2.1, ⟨hk.2.2.2.2.1, hk.2.2.2.2.2⟩⟩⟩⟩, hk.2.1⟩)) hg hat)
        have n5_ := Aside0.mk (Kd.R_after (ok := (fun k_ => (w.heap.size ≤ k_))) (by (with_reducible repeat (first | apply Kd.R_alloc | apply Kd.R_drewN | apply Kd.R_drew)); exact HO223.out) hg hat)
        have n6_ := Aside0.mk (hb)
        have n7_ := Aside0.mk (ho)
        clear BK202
        clear BK209
        clear BK213
        clear HO217
        clear HO220
        clear HO223
        clear HB
        clear HO205
        have BK202 := n0_
        have BK209 := n1_
        have BK213 := n2_
        have HO217 := n3_
        have HO220 := n4_
        have HO223 := n5_
        have HB := n6_
        have HO226 := n7_
        clear n0_ n1_ n2_ n3_ n4_ n5_ n6_ n7_
        clear ho hb hg hat
        obtain ⟨Ao35, co35, eo35⟩ := Kd.N_slice HO220.out
        (first | subst eo35 | (injection eo35 with f1_ f2_ f3_; have f4_ := f1_.symm; have f5_ := f3_.symm; clear f1_ f2_ f3_; subst f4_; subst f5_))
        obtain ⟨Ao37, co37, eo37⟩ := Kd.R_slice HO226.out
        (first | subst eo37 | (injection eo37 with f1_ f2_ f3_; have f4_ := f1_.symm; have f5_ := f3_.symm; clear f1_ f2_ f3_; subst f4_; subst f5_))
        refine hK.out _ _ ⟨(blk_cell BK209.out 0).trans rfl, (blk_cell BK209.out 1).trans rfl, (blk_cell BK213.out 0).trans rfl⟩ (fun hHeld => ?_)
        clear hK K
        refine norm_ (a' := ?_) ?_ ?_
        rotate_left
        · show Act.put _ (some 30) _ = _
          simp only [Act.put, List.setIfInBounds_toArray, List.set_cons_zero, List.set_cons_succ, i64_w, i32_w]
          rfl
        refine pure_ (i := 16) (N := some 31) (v := ?_) (a' := ?_) #[true, true, true, true, true, true, true, true, true, true, true, true, true, true, true, true, true, false, false, false, false, false] rfl rfl (any_of HT_.out (by kernel_rfl)) (fun _ _ _ h => h) (Or.inl ⟨by rfl, ?_⟩) ?_ ?_
        rotate_left
        · intro w'
          go_simp
          with_reducible rfl
        rotate_left
        · simp only [Act.put, List.setIfInBounds_toArray, List.set_cons_zero, List.set_cons_succ, i64_w, i32_w]
          rfl
        refine pure_ (i := 17) (N := some 32) (v := ?_) (a' := ?_) #[true, true, true, true, true, true, true, true, true, true, true, true, true, true, true, true, true, true, false, false, false, false] rfl rfl (any_of HT_.out (by kernel_rfl)) (fun _ _ _ h => h) (Or.inl ⟨by rfl, ?_⟩) ?_ ?_
        rotate_left
        · intro w'
          go_simp
          with_reducible rfl
        rotate_left
        · simp only [Act.put, List.setIfInBounds_toArray, List.set_cons_zero, List.set_cons_succ, i64_w, i32_w]
          rfl
        refine last_ (i := 18) (N := none) #[true, true, true, true, true, true, true, true, true, true, true, true, true, true, true, true, true, true, true, false, false, false] rfl rfl (one_of HT_.out (by kernel_rfl)) (by decide) (fun K hK => ?_)
        have hs36 : w33.cell? ⟨gb209, 1, none⟩ = some (.slice Ao13 y206.length co13) := (blk_cell BK209.out 1).trans rfl
        have hfs36 := blk_frozen BK209.out 1
        have hns36_0 := NB202_209.out
        have hns36_2 := NB213_209.out
        have hms36_0 := NB209_202.out
        have hms36_2 := NB209_213.out
        refine skip_ (w1 := ?_) (by rfl) rfl ?_ ?_
        rotate_left
        · go_simp
          rfl
        refine hK.out _ _ ?_
        clear hK K
        refine pure_ (i := 19) (N := some 33) (v := ?_) (a' := ?_) #[true, true, true, true, true, true, true, true, true, true, true, true, true, true, true, true, true, true, true, true, false, false] rfl rfl (any_of HT_.out (by kernel_rfl)) (fun _ _ _ h => h) (Or.inl ⟨by rfl, ?_⟩) ?_ ?_
        rotate_left
        · intro w'
          go_simp
          with_reducible rfl
        rotate_left
        · simp only [Act.put, List.setIfInBounds_toArray, List.set_cons_zero, List.set_cons_succ, i64_w, i32_w]
          rfl
        refine pure_ (i := 20) (N := some 34) (v := ?_) (a' := ?_) #[true, true, true, true, true, true, true, true, true, true, true, true, true, true, true, true, true, true, true, true, true, false] rfl rfl (any_of HT_.out (by kernel_rfl)) (fun _ _ _ h => h) (Or.inl ⟨by rfl, ?_⟩) ?_ ?_
        rotate_left
        · intro w'
          go_simp
          with_reducible rfl
        rotate_left
        · simp only [Act.put, List.setIfInBounds_toArray, List.set_cons_zero, List.set_cons_succ, i64_w, i32_w]
          rfl
        refine last_ (i := 21) (N := none) #[true, true, true, true, true, true, true, true, true, true, true, true, true, true, true, true, true, true, true, true, true, true] rfl rfl (one_of HT_.out (by kernel_rfl)) (by decide) (fun K hK => ?_)
        have hs38 : w33.cell? ⟨gb209, 0, none⟩ = some (.slice Ao14 y203.length co14) := (blk_cell BK209.out 0).trans rfl
        have hfs38 := blk_frozen BK209.out 0
        have hns38_0 := NB202_209.out
        have hns38_2 := NB213_209.out
        have hms38_0 := NB209_202.out
        have hms38_2 := NB209_213.out
        refine skip_ (w1 := ?_) (by rfl) rfl ?_ ?_
        rotate_left
        · go_simp
          rfl
        refine hK.out _ _ ?_
        clear hK K
        refine done_ (done_of HT_.out (by kernel_rfl)) ?_
        have hcz39_0 : w33.cell? ⟨gb209, 0, none⟩ = some (.slice Ao14 y203.length co14) := (blk_cell BK209.out 0).trans rfl
        have hcz39_1 : w33.cell? ⟨gb209, 1, none⟩ = some (.slice Ao13 y206.length co13) := (blk_cell BK209.out 1).trans rfl
        have hfz39_0 := blk_frozen BK209.out 0
        have hfz39_1 := blk_frozen BK209.out 1
        have hnb40 := NB202_213.out
        have hnc40 := NB213_202.out
        have hcz41_0 : w33.cell? ⟨gb202, 0, none⟩ = some (.slice none 0 0) := (blk_cell BK202.out 0).trans rfl
        have hcz41_1 : w33.cell? ⟨gb202, 1, none⟩ = some (.slice none 0 0) := (blk_cell BK202.out 1).trans rfl
        have hfz41_0 := blk_frozen BK202.out 0
        have hfz41_1 := blk_frozen BK202.out 1
        try go_wp2
        refine bodyPost_ret (results_none rfl _ _ _) rfl ?_
        exact ⟨rfl, by (with_reducible repeat (first | refine blk_drewN ?_ _ | refine blk_drew ?_ | refine blk_alloc ?_ _)); refine blk_far ?_ NB202_209.out _; (with_reducible repeat (first | refine blk_drewN ?_ _ | refine blk_drew ?_ | refine blk_alloc ?_ _)); refine blk_far ?_ NB202_209.out _; (with_reducible repeat (first | refine blk_drewN ?_ _ | refine blk_drew ?_ | refine blk_alloc ?_ _)); exact BK202.out, fun k_ hk_ a_ b_ c_ => by have f_ : k_ ≠ gb209 ∧ some k_ ≠ ob1 ∧ some k_ ≠ ob2 := ⟨a_, by rw [OB1.out]; exact b_, by rw [OB2.out]; exact c_⟩; have h_0 : wi.heap[k_]? = some wi.heap[k_] := Array.getElem?_eq_getElem hk_; refine Eq.trans ?_ h_0.symm; (with_reducible repeat (first | refine blk_drewN ?_ _ | refine blk_drew ?_ | refine blk_alloc ?_ _)); refine (Below.heap_setCell _ ⟨gb209, 0, none⟩ _ k_ f_.1).trans ?_; (with_reducible repeat (first | refine blk_drewN ?_ _ | refine blk_drew ?_ | refine blk_alloc ?_ _)); refine (Below.heap_setCell _ ⟨gb209, 1, none⟩ _ k_ f_.1).trans ?_; (with_reducible repeat (first | refine blk_drewN ?_ _ | refine blk_drew ?_ | refine blk_alloc ?_ _)); exact KP.out k_ _ f_ h_0, by repeat (first | (with_reducible first | exact HB.out | apply below_alloc | apply pw_below_drewN | apply below_drew1 | refine below_set ?_ GE202.out | refine below_set ?_ GE209.out | refine below_set ?_ GE213.out) | exact HB.out), Go.Proofs.YtlhpejabdmejbaaW.OV.sz_set (Go.Proofs.YtlhpejabdmejbaaW.OV.sz_set SZ.out _ _) _ _, .slice Ao37 y224.length co37, .slice Ao35 y218.length co35, by (with_reducible repeat (first | refine blk_drewN ?_ _ | refine blk_drew ?_ | refine blk_alloc ?_ _)); refine blk_put (cs := #[.slice Ao14 y203.length co14, .slice Ao35 y218.length co35]) ?_ 0 _ rfl; (with_reducible repeat (first | refine blk_drewN ?_ _ | refine blk_drew ?_ | refine blk_alloc ?_ _)); refine blk_put (cs := #[.slice Ao14 y203.length co14, .slice Ao13 y206.length co13]) ?_ 1 _ rfl; (with_reducible repeat (first | refine blk_drewN ?_ _ | refine blk_drew ?_ | refine blk_alloc ?_ _)); exact BK209.out, ⟨_, _, rfl⟩, by (with_reducible repeat (first | apply Kd.R_alloc | apply Kd.R_drewN | apply Kd.R_drew)); exact Kd.R_mono (Kd.R_far (p := ⟨gb209, 0, none⟩) (Kd.R_far (p := ⟨gb209, 1, none⟩) (Kd.R_types HO226.out BK209.out (by decide)) (fun _ hk => hk.2) (.slice Ao35 y218.length co35)) (fun _ hk => hk.2) (.slice Ao37 y224.length co37)) (fun _ hk => hk.1.1), by (with_reducible repeat (first | apply Kd.N_alloc | apply Kd.N_drewN | apply Kd.N_drew)); exact Kd.N_mono (Kd.N_far (p := ⟨gb209, 0, none⟩) (Kd.N_far (p := ⟨gb209, 1, none⟩) (Kd.N_mono HO220.out (fun k_ hk => (⟨hk, hk.1.2.2.2.1⟩ : _ ∧ k_ ≠ gb209))) (fun _ hk => hk.2) (.slice Ao35 y218.length co35)) (fun _ hk => hk.2) (.slice Ao37 y224.length co37)) (fun _ hk => ⟨⟨hk.1.1.1, hk.1.2, hk.1.1.2.2.1⟩, hk.2⟩), (fun k_ e_ => (OW_.out k_ e_).imp (fun h_ => OB1.out.symm.trans h_) id), (fun k_ e_ => (OL_.out k_ e_).imp (fun h_ => OB2.out.symm.trans h_) id)⟩
      · rw [if_neg c7] at H
        exact absurd H (by simp)
    · rw [if_neg c6] at H
      exact absurd H (by simp)
  · rw [if_neg c5] at H
    have c5b0 : decide (t214 < 0) = false := decide_eq_false c5
    clear c5
    by_cases c42 : 0 ≤ t214
    · rw [if_pos c42] at H
      have c42b0 : decide (0 ≤ t214) = true := decide_eq_true c42
      clear c42
      by_cases c43 : t214 < (y203.length : Int)
      · rw [if_pos c43] at H
        have c43b0 : decide (t214 < (y203.length : Int)) = true := decide_eq_true c43
        clear c43
        obtain ⟨y228, hy228⟩ : ∃ y_ : List Int, y_ = (y203.set (t214 : Int).toNat (wrap64 ((rd y203 t214) + a2))) := ⟨_, rfl⟩
        replace H : (some (y228, y206)) = some (r1, r2) := by first | (rw [hy228]; with_reducible exact H) | (have H2_ := (Option.bind_some _ _).symm.trans H; rw [hy228]; with_reducible exact H2_) | (have H2_ := (Option.bind_some _ _).symm.trans H; with_reducible exact H2_) | with_reducible exact H | (rw [hy228]; exact H) | exact H
        have Ny228 := Aside0.mk hy228
        clear hy228
        simp only [Option.some.injEq, Prod.mk.injEq] at H
        obtain ⟨rfl, rfl⟩ := H
        go_enter Try.func89, Try.ntmps89
        go_wp2_with (first | ((with_reducible refine gate_dst (N := 4) rfl ?_); refine box_event ?hg (N := 4) ?hd (cs := #[.slice Ao20 y210.length co20]) (t := 22) ?hr ?_; (case hd => rfl); (case hg => rfl); (case hr => first | (go_simp; done) | (go_simp; rfl)); intro gb213 hg w58 hbox hb; have n0_ := Aside0.mk (Kd.R_below (by (with_reducible repeat (first | apply Kd.R_alloc | apply Kd.R_drewN | apply Kd.R_drew)); exact HO205.out) hb); have n1_ := Aside0.mk (Kd.N_below (Kd.N_elderB (by (with_reducible repeat (first | apply Kd.N_alloc | apply Kd.N_drewN | apply Kd.N_drew)); exact HO208.out) gb213 (Nat.le_of_eq hg.symm)) hb); have n2_ := Aside0.mk (Kd.R_below (by (with_reducible repeat (first | apply Kd.R_alloc | apply Kd.R_drewN | apply Kd.R_drew)); exact HO212.out) hb); have sz_ := Aside0.mk (Go.Proofs.YtlhpejabdmejbaaW.OV.sz_below (by (with_reducible repeat (first | refine Go.Proofs.YtlhpejabdmejbaaW.OV.sz_drewN ?_ _ | refine Go.Proofs.YtlhpejabdmejbaaW.OV.sz_drew ?_ | refine Go.Proofs.YtlhpejabdmejbaaW.OV.sz_alloc ?_ _)); exact SZ.out) hb); clear SZ; have SZ := sz_; clear sz_; have kp_ := Aside0.mk (fun (g_ : Nat) (o_ : Obj) (f_ : g_ ≠ gb209 ∧ some g_ ≠ ob1 ∧ some g_ ≠ ob2) (h_0 : wi.heap[g_]? = some o_) => blk_below (g := g_) (o := o_) (by (with_reducible repeat (first | refine blk_drewN ?_ _ | refine blk_drew ?_ | refine blk_alloc ?_ _)); exact KP.out g_ o_ f_ h_0) hb); clear KP; have KP := kp_; clear kp_; have n3_ := Aside0.mk (blk_below (g := gb202) (o := .cells #[.slice none 0 0, .slice none 0 0] 29 (0, 0)) (by (with_reducible repeat (first | refine blk_drewN ?_ _ | refine blk_drew ?_ | refine blk_alloc ?_ _)); exact BK202.out) hb); have n4_ := Aside0.mk (blk_below (g := gb209) (o := .cells #[.slice Ao14 y203.length co14, .slice Ao13 y206.length co13] 29 (0, 0)) (by (with_reducible repeat (first | refine blk_drewN ?_ _ | refine blk_drew ?_ | refine blk_alloc ?_ _)); exact BK209.out) hb); have n5_ := Aside0.mk (below_step (by repeat (first | (with_reducible first | exact HB.out | apply below_alloc | apply pw_below_drewN | apply below_drew1 | refine below_set ?_ GE202.out | refine below_set ?_ GE209.out) | exact HB.out)) hb); have n6_ := Aside0.mk (hbox); have n7_ := Aside0.mk ((by rw [hg]; exact (below_size (by repeat (first | (with_reducible first | exact HB.out | apply below_alloc | apply pw_below_drewN | apply below_drew1 | refine below_set ?_ GE202.out | refine below_set ?_ GE209.out) | exact HB.out))) : w.heap.size ≤ gb213)); have n8_ := Aside0.mk ((by rw [hg]; exact (below_size (by repeat (first | (with_reducible first | exact HB.out | apply below_alloc | apply pw_below_drewN | apply below_drew1 | refine below_set ?_ GE202.out | refine below_set ?_ GE209.out) | exact HB.out))) : w.heap.size ≤ gb213)); have n9_ := Aside0.mk ((by rw [hg]; exact Nat.ne_of_lt (blk_lt (g := gb202) (o := .cells #[.slice none 0 0, .slice none 0 0] 29 (0, 0)) (by (with_reducible repeat (first | refine blk_drewN ?_ _ | refine blk_drew ?_ | refine blk_alloc ?_ _)); exact BK202.out)) : gb202 ≠ gb213)); have n10_ := Aside0.mk ((by rw [hg]; exact Nat.ne_of_gt (blk_lt (g := gb202) (o := .cells #[.slice none 0 0, .slice none 0 0] 29 (0, 0)) (by (with_reducible repeat (first | refine blk_drewN ?_ _ | refine blk_drew ?_ | refine blk_alloc ?_ _)); exact BK202.out)) : gb213 ≠ gb202)); have n11_ := Aside0.mk ((by rw [hg]; exact Nat.ne_of_lt (blk_lt (g := gb209) (o := .cells #[.slice Ao14 y203.length co14, .slice Ao13 y206.length co13] 29 (0, 0)) (by (with_reducible repeat (first | refine blk_drewN ?_ _ | refine blk_drew ?_ | refine blk_alloc ?_ _)); exact BK209.out)) : gb209 ≠ gb213)); have n12_ := Aside0.mk ((by rw [hg]; exact Nat.ne_of_gt (blk_lt (g := gb209) (o := .cells #[.slice Ao14 y203.length co14, .slice Ao13 y206.length co13] 29 (0, 0)) (by (with_reducible repeat (first | refine blk_drewN ?_ _ | refine blk_drew ?_ | refine blk_alloc ?_ _)); exact BK209.out)) : gb213 ≠ gb209)); clear HO205; clear HO208; clear HO212; clear BK202; clear BK209; clear HB; have HO205 := n0_; have HO208 := n1_; have HO212 := n2_; have BK202 := n3_; have BK209 := n4_; have HB := n5_; have BK213 := n6_; have GW213 := n7_; have GE213 := n8_; have NB202_213 := n9_; have NB213_202 := n10_; have NB209_213 := n11_; have NB213_209 := n12_; clear n0_ n1_ n2_ n3_ n4_ n5_ n6_ n7_ n8_ n9_ n10_ n11_ n12_; clear hb hbox hg; have hnb59 := NB209_213.out; have hnc59 := NB213_209.out; have hcz60_0 : w58.cell? ⟨gb209, 0, none⟩ = some (.slice Ao14 y203.length co14) := (blk_cell BK209.out 0).trans rfl; have hcz60_1 : w58.cell? ⟨gb209, 1, none⟩ = some (.slice Ao13 y206.length co13) := (blk_cell BK209.out 1).trans rfl; have hfz60_0 := blk_frozen BK209.out 0; have hfz60_1 := blk_frozen BK209.out 1) | ((with_reducible refine gate_callee (f := 118) rfl ?_); refine goesL_ (some 12) rfl rfl Try.func118 (by kernel_rfl) rfl #[.slice Ao13 y206.length co13, .func (.func 124) #[] #[.pointer (some ⟨gb213, 0, none⟩)]] rfl (by (try simp only [List.map_toArray, List.map_cons, List.map_nil]); first | done | rfl | (simp only [List.length_drop, List.length_take]; rfl)) ?_; (with_reducible refine (slices_IndexFunc_int64_int64_impl_Mixture_addTo_1.calls k _ _ y206 gb213 Ao20 co20 y210 t214 _ ?side1 ?side2 ?side3 ?side4 ?side5 A4.out).mono ?_); (case side1 => repeat (first | exact Go.Proofs.YtlhpejabdmejbaaW.OV.ownV_C (Kd.N_reads' HO208.out).2.2 | (with_reducible refine Kd.C_alloc ?_ _) | (with_reducible refine Kd.C_drewN ?_ _) | (with_reducible refine Kd.C_drew ?_))); (case side2 => exact (Kd.N_reads' HO208.out).2.1); (case side3 => first | (with_reducible exact BK213.out) | (exact by (with_reducible repeat (first | refine blk_drewN ?_ _ | refine blk_drew ?_ | refine blk_alloc ?_ _)); exact BK213.out) | ((with_reducible repeat (first | refine blk_drewN ?_ _ | refine blk_drew ?_ | refine blk_alloc ?_ _)); exact BK213.out) | (exact BK213.out)); (case side4 => repeat (first | exact (Kd.R_reads' HO212.out).2.2 | (with_reducible refine Kd.C_alloc ?_ _) | (with_reducible refine Kd.C_drewN ?_ _) | (with_reducible refine Kd.C_drew ?_))); (case side5 => exact (Kd.R_reads' HO212.out).2.1); rintro e w61 ⟨rfl, hb⟩; refine ⟨_, rfl, ?_⟩; have n0_ := Aside0.mk (Kd.R_below (by (with_reducible repeat (first | apply Kd.R_alloc | apply Kd.R_drewN | apply Kd.R_drew)); exact HO205.out) hb); have n1_ := Aside0.mk (Kd.N_below (by (with_reducible repeat (first | apply Kd.N_alloc | apply Kd.N_drewN | apply Kd.N_drew)); exact HO208.out) hb); have n2_ := Aside0.mk (Kd.R_below (by (with_reducible repeat (first | apply Kd.R_alloc | apply Kd.R_drewN | apply Kd.R_drew)); exact HO212.out) hb); have sz_ := Aside0.mk (Go.Proofs.YtlhpejabdmejbaaW.OV.sz_below (by (with_reducible repeat (first | refine Go.Proofs.YtlhpejabdmejbaaW.OV.sz_drewN ?_ _ | refine Go.Proofs.YtlhpejabdmejbaaW.OV.sz_drew ?_ | refine Go.Proofs.YtlhpejabdmejbaaW.OV.sz_alloc ?_ _)); exact SZ.out) hb); clear SZ; have SZ := sz_; clear sz_; have kp_ := Aside0.mk (fun (g_ : Nat) (o_ : Obj) (f_ : g_ ≠ gb209 ∧ some g_ ≠ ob1 ∧ some g_ ≠ ob2) (h_0 : wi.heap[g_]? = some o_) => blk_below (g := g_) (o := o_) (by (with_reducible repeat (first | refine blk_drewN ?_ _ | refine blk_drew ?_ | refine blk_alloc ?_ _)); exact KP.out g_ o_ f_ h_0) hb); clear KP; have KP := kp_; clear kp_; have n3_ := Aside0.mk (blk_below (g := gb202) (o := .cells #[.slice none 0 0, .slice none 0 0] 29 (0, 0)) (by (with_reducible repeat (first | refine blk_drewN ?_ _ | refine blk_drew ?_ | refine blk_alloc ?_ _)); exact BK202.out) hb); have n4_ := Aside0.mk (blk_below (g := gb209) (o := .cells #[.slice Ao14 y203.length co14, .slice Ao13 y206.length co13] 29 (0, 0)) (by (with_reducible repeat (first | refine blk_drewN ?_ _ | refine blk_drew ?_ | refine blk_alloc ?_ _)); exact BK209.out) hb); have n5_ := Aside0.mk (blk_below (g := gb213) (o := .cells #[.slice Ao20 y210.length co20] 22 (0, 0)) (by (with_reducible repeat (first | refine blk_drewN ?_ _ | refine blk_drew ?_ | refine blk_alloc ?_ _)); exact BK213.out) hb); have n6_ := Aside0.mk (below_step (by repeat (first | (with_reducible first | exact HB.out | apply below_alloc | apply pw_below_drewN | apply below_drew1 | refine below_set ?_ GE202.out | refine below_set ?_ GE209.out | refine below_set ?_ GE213.out) | exact HB.out)) hb); clear HO205; clear HO208; clear HO212; clear BK202; clear BK209; clear BK213; clear HB; have HO205 := n0_; have HO208 := n1_; have HO212 := n2_; have BK202 := n3_; have BK209 := n4_; have BK213 := n5_; have HB := n6_; clear n0_ n1_ n2_ n3_ n4_ n5_ n6_; (try clear hb); (try clear hb2); (try clear hk); (try clear hi); have hcz62_0 : w61.cell? ⟨gb209, 0, none⟩ = some (.slice Ao14 y203.length co14) := (blk_cell BK209.out 0).trans rfl; have hcz62_1 : w61.cell? ⟨gb209, 1, none⟩ = some (.slice Ao13 y206.length co13) := (blk_cell BK209.out 1).trans rfl; have hfz62_0 := blk_frozen BK209.out 0; have hfz62_1 := blk_frozen BK209.out 1; have p227 : 0 ≤ (t214 : Int) := of_decide_eq_true (by first | (with_reducible assumption) | assumption); have q227 : t214 < (y203.length : Int) := of_decide_eq_true (by first | (with_reducible assumption) | assumption); obtain ⟨ad227, e227, hx227_0⟩ := Kd.at_int (Kd.R_reads' HO205.out).2.2 t214 p227 q227; cases e227; replace p227 := eq_true p227; replace q227 := eq_true q227; have p44 : 0 ≤ (t214 : Int) := of_decide_eq_true (by first | (with_reducible assumption) | assumption); have q44 : (t214 : Int) < ((y203.length : Int) : Int) := of_decide_eq_true (by first | (with_reducible assumption) | assumption); obtain ⟨go44, co44, eo44, gb44, gl44, cl44, HG44⟩ := Kd.R_form HO205.out (by omega); (first | cases eo44 | (injection eo44 with ea_ en_ ec_; (first | subst ea_ | (injection ea_ with ea_; subst ea_)); subst ec_; clear en_)); have GB44 := Aside0.mk gb44; have GG44 := Aside0.mk HG44; clear gb44 gl44 HG44; (first | simp only [add_plain] at hx227_0 | skip); obtain ⟨hx44_0, hf44_0⟩ := Kd.R_celln 0 HO205.out (t214 : Int) p44 q44; replace p44 := eq_true p44; replace q44 := eq_true q44; have n_ := Aside0.mk (Kd.R_mono (ok' := (fun k_ => (w.heap.size ≤ k_) ∧ some k_ ≠ (.slice Ao20 y210.length co20 : Value).ownBlock)) HO205.out (fun k_ hk => ⟨hk.1.1, hk.2⟩)); clear HO205; have HO205 := n_; clear n_; obtain ⟨hy63_, hz63_⟩ := Kd.R_celln 0 HO205.out (t214 : Int) (of_decide_eq_true (by first | (with_reducible assumption) | assumption)) (of_decide_eq_true (by first | (with_reducible assumption) | assumption)); have HP63 := Kd.R_putg HO205.out (t214 : Int) (wrap64 ((rd y203 t214) + a2))) | ((with_reducible refine gate_store (t := 2) (p := 44) rfl ?_); refine store_event (t := 2) (p := 44) (v := ?vo_w64) (w1 := (w61.setCell ⟨go44, (t214 : Int).toNat, none⟩ (.int .i64 (wrap64 ((rd y203 t214) + a2))))) ?hg ?ho ?hn ?hr ?_; (case ho => rfl); (case hg => rfl); (case hn => rfl); (case hr => first | (go_simp; done) | (go_simp; rfl)); intro w64 hw; have hg : w61.grownBy w64 (some go44) := (by rw [hw]; exact HP63.2); have hp_ : Kd.R (Kd.int .i64) 2 w64 w.heap.size (fun k_ => (w.heap.size ≤ k_) ∧ some k_ ≠ (.slice Ao20 y210.length co20 : Value).ownBlock) (.slice (some ⟨go44, 0, none⟩) y203.length co14) y228 := (by rw [hw, Ny228.out]; exact HP63.1); clear HP63; have sz_ := Aside0.mk (Go.Proofs.YtlhpejabdmejbaaW.OV.sz_grown (by (with_reducible repeat (first | refine Go.Proofs.YtlhpejabdmejbaaW.OV.sz_drewN ?_ _ | refine Go.Proofs.YtlhpejabdmejbaaW.OV.sz_drew ?_ | refine Go.Proofs.YtlhpejabdmejbaaW.OV.sz_alloc ?_ _)); exact SZ.out) hg); clear SZ; have SZ := sz_; clear sz_; have kp_ := Aside0.mk (fun (g_ : Nat) (o_ : Obj) (f_ : g_ ≠ gb209 ∧ some g_ ≠ ob1 ∧ some g_ ≠ ob2) (h_0 : wi.heap[g_]? = some o_) => blk_grown (g := g_) (o := o_) (by (with_reducible repeat (first | refine blk_drewN ?_ _ | refine blk_drew ?_ | refine blk_alloc ?_ _)); exact KP.out g_ o_ f_ h_0) hg (fun e_ => f_.2.1 (e_.trans OB1.out.symm))); clear KP; have KP := kp_; clear kp_; have n0_ := Aside0.mk (blk_grown (g := gb202) (o := .cells #[.slice none 0 0, .slice none 0 0] 29 (0, 0)) (by (with_reducible repeat (first | refine blk_drewN ?_ _ | refine blk_drew ?_ | refine blk_alloc ?_ _)); exact BK202.out) hg (Kd.R_ne HO205.out BK202.out (by decide))); have n1_ := Aside0.mk (hp_); have n2_ := Aside0.mk (Kd.N_afterv (v := (.slice (some ⟨go44, 0, none⟩) y203.length co14)) (v1 := (.slice (some ⟨go44, 0, none⟩) y203.length co14)) (ok := (fun k_ => (w.heap.size ≤ k_) ∧ some k_ ≠ (.slice Ao20 y210.length co20 : Value).ownBlock ∧ k_ ≠ gb202 ∧ k_ ≠ gb209 ∧ k_ ≠ gb213)) (by (with_reducible repeat (first | apply Kd.N_alloc | apply Kd.N_drewN | apply Kd.N_drew)); exact Kd.N_mono HO208.out (fun _ hk => ⟨⟨hk.1.1.1.1, ⟨hk.1.2, ⟨hk.1.1.1.2.2, ⟨hk.1.1.2, hk.2⟩⟩⟩⟩, hk.1.1.1.2.1⟩)) hg (.inl rfl)); have n3_ := Aside0.mk (blk_grown (g := gb209) (o := .cells #[.slice (some ⟨go44, 0, none⟩) y203.length co14, .slice Ao13 y206.length co13] 29 (0, 0)) (by (with_reducible repeat (first | refine blk_drewN ?_ _ | refine blk_drew ?_ | refine blk_alloc ?_ _)); exact BK209.out) hg (Kd.R_ne HO205.out BK209.out (by decide))); have n4_ := Aside0.mk (Kd.R_after (v := (.slice (some ⟨go44, 0, none⟩) y203.length co14)) (v1 := (.slice (some ⟨go44, 0, none⟩) y203.length co14)) (ok := (fun k_ => (w.heap.size ≤ k_))) (by (with_reducible repeat (first | apply Kd.R_alloc | apply Kd.R_drewN | apply Kd.R_drew)); exact Kd.R_mono HO212.out (fun _ hk => ⟨hk.1.1, hk.2⟩)) hg (.inl rfl)); have n5_ := Aside0.mk (blk_grown (g := gb213) (o := .cells #[.slice Ao20 y210.length co20] 22 (0, 0)) (by (with_reducible repeat (first | refine blk_drewN ?_ _ | refine blk_drew ?_ | refine blk_alloc ?_ _)); exact BK213.out) hg (Kd.R_ne HO205.out BK213.out (by decide))); have n6_ := Aside0.mk ((by rw [hw]; exact below_set (HB.out) GB44.out : Below w.heap.size w w64)); clear BK202; clear HO205; clear HO208; clear BK209; clear HO212; clear BK213; clear HB; have BK202 := n0_; have HO205 := n1_; have HO208 := n2_; have BK209 := n3_; have HO212 := n4_; have BK213 := n5_; have HB := n6_; clear n0_ n1_ n2_ n3_ n4_ n5_ n6_; clear hg hw hp_; have hcz65_0 : w64.cell? ⟨gb209, 0, none⟩ = some (.slice (some ⟨go44, 0, none⟩) y203.length co14) := (blk_cell BK209.out 0).trans rfl; have hcz65_1 : w64.cell? ⟨gb209, 1, none⟩ = some (.slice Ao13 y206.length co13) := (blk_cell BK209.out 1).trans rfl; have hfz65_0 := blk_frozen BK209.out 0; have hfz65_1 := blk_frozen BK209.out 1; have hnb66 := NB202_213.out; have hnc66 := NB213_202.out; have hcz67_0 : w64.cell? ⟨gb202, 0, none⟩ = some (.slice none 0 0) := (blk_cell BK202.out 0).trans rfl; have hcz67_1 : w64.cell? ⟨gb202, 1, none⟩ = some (.slice none 0 0) := (blk_cell BK202.out 1).trans rfl; have hfz67_0 := blk_frozen BK202.out 0; have hfz67_1 := blk_frozen BK202.out 1))
        go_end0
        exact ⟨rfl, by (with_reducible repeat (first | refine blk_drewN ?_ _ | refine blk_drew ?_ | refine blk_alloc ?_ _)); exact BK202.out, fun k_ hk_ a_ b_ c_ => by have f_ : k_ ≠ gb209 ∧ some k_ ≠ ob1 ∧ some k_ ≠ ob2 := ⟨a_, by rw [OB1.out]; exact b_, by rw [OB2.out]; exact c_⟩; have h_0 : wi.heap[k_]? = some wi.heap[k_] := Array.getElem?_eq_getElem hk_; refine Eq.trans ?_ h_0.symm; (with_reducible repeat (first | refine blk_drewN ?_ _ | refine blk_drew ?_ | refine blk_alloc ?_ _)); (with_reducible repeat (first | refine blk_drewN ?_ _ | refine blk_drew ?_ | refine blk_alloc ?_ _)); exact KP.out k_ _ f_ h_0, by repeat (first | (with_reducible first | exact HB.out | apply below_alloc | apply pw_below_drewN | apply below_drew1 | refine below_set ?_ GE202.out | refine below_set ?_ GE209.out | refine below_set ?_ GE213.out) | exact HB.out), SZ.out, .slice (some ⟨go44, 0, none⟩) y203.length co14, .slice Ao13 y206.length co13, by (with_reducible repeat (first | refine blk_drewN ?_ _ | refine blk_drew ?_ | refine blk_alloc ?_ _)); exact BK209.out, ⟨_, _, by rw [Ny228.out, List.length_set]⟩, by (with_reducible repeat (first | apply Kd.R_alloc | apply Kd.R_drewN | apply Kd.R_drew)); exact Kd.R_mono HO205.out (fun _ hk => hk.1), by (with_reducible repeat (first | apply Kd.N_alloc | apply Kd.N_drewN | apply Kd.N_drew)); exact Kd.N_mono HO208.out (fun _ hk => ⟨⟨hk.1.1, hk.2, hk.1.2.2.1⟩, hk.1.2.2.2.1⟩), (fun k_ e_ => .inl e_), (fun k_ e_ => .inl e_)⟩
      · rw [if_neg c43] at H
        exact absurd H (by simp)
    · rw [if_neg c42] at H
      exact absurd H (by simp)
mutual
def impl_PermutationMixture.l0 : Nat → List (List Int) → List Int → List (List Int) → Option (List Int × (List (List Int)) × Bool)
  | 0, _, _, _ => none
  | k + 1, x5, x210000, x210001 => if 0 < (x5.length : Int) then ((impl_sum.f k (rd_L1 x5 0)).bind fun t211 => (if t211 > 0 then (if 0 ≤ (x5.length : Int) then (if ((x5.length : Int) : Int).toNat ≤ 35184372088832 then ((impl_fitting.f k x5 ([] : List Int)).bind fun bt212 => (if 0 < (bt212.1.length : Int) then (if 0 ≤ (rd bt212.1 0) then (if (rd bt212.1 0) < ((rd_L1 x5 0).length : Int) then (impl_PermutationMixture.l1 k x5 bt212.1 (rd (rd_L1 x5 0) (rd bt212.1 0)) bt212.1 (bt212.1.length : Int) 0 x210000 x210001) else (none)) else (none)) else (none))) else (none)) else (none)) else (some (x210000, x210001, true)))) else (none)
def impl_PermutationMixture.l1 : Nat → List (List Int) → List Int → Int → List Int → Int → Int → List Int → List (List Int) → Option (List Int × (List (List Int)) × Bool)
  | 0, _, _, _, _, _, _, _, _ => none
  | k + 1, x5, x6, x8, x38, x39, x40, x210000, x210001 => if x40 < x39 then (if 0 ≤ x40 then (if x40 < (x38.length : Int) then (if x40 < (x5.length : Int) then (if 0 ≤ (rd x38 x40) then (if (rd x38 x40) < ((rd_L1 x5 x40).length : Int) then (impl_PermutationMixture.l1 k x5 x6 (mn x8 (rd (rd_L1 x5 x40) (rd x38 x40))) x38 x39 (wrap64 (x40 + 1)) x210000 x210001) else (none)) else (none)) else (none)) else (none)) else (none)) else (impl_PermutationMixture.l2 k x5 x8 x6 (x6.length : Int) 0 x210000 x210001)
def impl_PermutationMixture.l2 : Nat → List (List Int) → Int → List Int → Int → Int → List Int → List (List Int) → Option (List Int × (List (List Int)) × Bool)
  | 0, _, _, _, _, _, _, _ => none
  | k + 1, x5, x8, x55, x56, x57, x210000, x210001 => if x57 < x56 then (if 0 ≤ x57 then (if x57 < (x55.length : Int) then (if x57 < (x5.length : Int) then (if 0 ≤ (rd x55 x57) then (if (rd x55 x57) < ((rd_L1 x5 x57).length : Int) then (impl_PermutationMixture.l2 k (x5.set (x57 : Int).toNat ((rd_L1 x5 x57).set ((rd x55 x57) : Int).toNat (wrap64 ((rd (rd_L1 x5 x57) (rd x55 x57)) - x8)))) x8 x55 x56 (wrap64 (x57 + 1)) x210000 x210001) else (none)) else (none)) else (none)) else (none)) else (none)) else ((impl_Mixture_addTo.f k x210000 x210001 x55 x8).bind fun bt227 => (impl_PermutationMixture.l0 k x5 bt227.1 bt227.2))
end
def impl_PermutationMixture.f (k : Nat) (l0 : List (List Int)) : Option (List Int × (List (List Int)) × Bool) := (impl_IsDoubly.f k l0).bind fun t205 => (if t205 = true then ((impl_ownRows.f k l0).bind fun t206 => (impl_PermutationMixture.l0 k t206 ([] : List Int) ([] : List (List Int)))) else (some (([] : List Int), ([] : List (List Int)), false)))
theorem impl_PermutationMixture.mono_l : ∀ k, (∀ y0 y1 y2, LeO (impl_PermutationMixture.l0 k y0 y1 y2) (impl_PermutationMixture.l0 (k + 1) y0 y1 y2)) ∧ (∀ y0 y1 y2 y3 y4 y5 y6 y7, LeO (impl_PermutationMixture.l1 k y0 y1 y2 y3 y4 y5 y6 y7) (impl_PermutationMixture.l1 (k + 1) y0 y1 y2 y3 y4 y5 y6 y7)) ∧ (∀ y0 y1 y2 y3 y4 y5 y6, LeO (impl_PermutationMixture.l2 k y0 y1 y2 y3 y4 y5 y6) (impl_PermutationMixture.l2 (k + 1) y0 y1 y2 y3 y4 y5 y6))
  | 0 => ⟨fun _ _ _ r h => by simp [impl_PermutationMixture.l0] at h, fun _ _ _ _ _ _ _ _ r h => by simp [impl_PermutationMixture.l1] at h, fun _ _ _ _ _ _ _ r h => by simp [impl_PermutationMixture.l2] at h⟩
  | k + 1 => by
    obtain ⟨ih0, ih1, ih2⟩ := impl_PermutationMixture.mono_l k
    refine ⟨?_, ?_, ?_⟩
    · intro y0 y1 y2
      unfold impl_PermutationMixture.l0
      repeat' first
      | (with_reducible exact ih0 _ _ _)
      | (with_reducible exact ih1 _ _ _ _ _ _ _ _)
      | (with_reducible exact ih2 _ _ _ _ _ _ _)
      | (with_reducible exact impl_IsDoubly.mono _ _)
      | (with_reducible exact impl_ownRows.mono _ _)
      | (with_reducible exact impl_sum.mono _ _)
      | (with_reducible exact impl_Mixture_addTo.mono _ _ _ _ _)
      | (with_reducible exact impl_fitting.mono _ _ _)
      | (with_reducible exact LeO.refl _)
      | (with_reducible exact LeO.none _)
      | (with_reducible refine LeO.ite ?_ ?_)
      | (with_reducible refine LeO.bind ?_ (fun _ => ?_))
      | exact ih0 _ _ _
      | exact ih1 _ _ _ _ _ _ _ _
      | exact ih2 _ _ _ _ _ _ _
      | exact impl_IsDoubly.mono _ _
      | exact impl_ownRows.mono _ _
      | exact impl_sum.mono _ _
      | exact impl_Mixture_addTo.mono _ _ _ _ _
      | exact impl_fitting.mono _ _ _
      | exact LeO.none _
      | refine LeO.ite ?_ ?_
      | refine LeO.bind ?_ (fun _ => ?_)
    · intro y0 y1 y2 y3 y4 y5 y6 y7
      unfold impl_PermutationMixture.l1
      repeat' first
      | (with_reducible exact ih0 _ _ _)
      | (with_reducible exact ih1 _ _ _ _ _ _ _ _)
      | (with_reducible exact ih2 _ _ _ _ _ _ _)
      | (with_reducible exact impl_IsDoubly.mono _ _)
      | (with_reducible exact impl_ownRows.mono _ _)
      | (with_reducible exact impl_sum.mono _ _)
      | (with_reducible exact impl_Mixture_addTo.mono _ _ _ _ _)
      | (with_reducible exact impl_fitting.mono _ _ _)
      | (with_reducible exact LeO.refl _)
      | (with_reducible exact LeO.none _)
      | (with_reducible refine LeO.ite ?_ ?_)
      | (with_reducible refine LeO.bind ?_ (fun _ => ?_))
      | exact ih0 _ _ _
      | exact ih1 _ _ _ _ _ _ _ _
      | exact ih2 _ _ _ _ _ _ _
      | exact impl_IsDoubly.mono _ _
      | exact impl_ownRows.mono _ _
      | exact impl_sum.mono _ _
      | exact impl_Mixture_addTo.mono _ _ _ _ _
      | exact impl_fitting.mono _ _ _
      | exact LeO.none _
      | refine LeO.ite ?_ ?_
      | refine LeO.bind ?_ (fun _ => ?_)
    · intro y0 y1 y2 y3 y4 y5 y6
      unfold impl_PermutationMixture.l2
      repeat' first
      | (with_reducible exact ih0 _ _ _)
      | (with_reducible exact ih1 _ _ _ _ _ _ _ _)
      | (with_reducible exact ih2 _ _ _ _ _ _ _)
      | (with_reducible exact impl_IsDoubly.mono _ _)
      | (with_reducible exact impl_ownRows.mono _ _)
      | (with_reducible exact impl_sum.mono _ _)
      | (with_reducible exact impl_Mixture_addTo.mono _ _ _ _ _)
      | (with_reducible exact impl_fitting.mono _ _ _)
      | (with_reducible exact LeO.refl _)
      | (with_reducible exact LeO.none _)
      | (with_reducible refine LeO.ite ?_ ?_)
      | (with_reducible refine LeO.bind ?_ (fun _ => ?_))
      | exact ih0 _ _ _
      | exact ih1 _ _ _ _ _ _ _ _
      | exact ih2 _ _ _ _ _ _ _
      | exact impl_IsDoubly.mono _ _
      | exact impl_ownRows.mono _ _
      | exact impl_sum.mono _ _
      | exact impl_Mixture_addTo.mono _ _ _ _ _
      | exact impl_fitting.mono _ _ _
      | exact LeO.none _
      | refine LeO.ite ?_ ?_
      | refine LeO.bind ?_ (fun _ => ?_)
theorem impl_PermutationMixture.mono : ∀ a0 k, LeO (impl_PermutationMixture.f k a0) (impl_PermutationMixture.f (k + 1) a0) := by
  intro a0 k
  obtain ⟨ih0, ih1, ih2⟩ := impl_PermutationMixture.mono_l k
  unfold impl_PermutationMixture.f
  repeat' first
      | (with_reducible exact ih0 _ _ _)
      | (with_reducible exact ih1 _ _ _ _ _ _ _ _)
      | (with_reducible exact ih2 _ _ _ _ _ _ _)
      | (with_reducible exact impl_IsDoubly.mono _ _)
      | (with_reducible exact impl_ownRows.mono _ _)
      | (with_reducible exact impl_sum.mono _ _)
      | (with_reducible exact impl_Mixture_addTo.mono _ _ _ _ _)
      | (with_reducible exact impl_fitting.mono _ _ _)
      | (with_reducible exact LeO.refl _)
      | (with_reducible exact LeO.none _)
      | (with_reducible refine LeO.ite ?_ ?_)
      | (with_reducible refine LeO.bind ?_ (fun _ => ?_))
      | exact ih0 _ _ _
      | exact ih1 _ _ _ _ _ _ _ _
      | exact ih2 _ _ _ _ _ _ _
      | exact impl_IsDoubly.mono _ _
      | exact impl_ownRows.mono _ _
      | exact impl_sum.mono _ _
      | exact impl_Mixture_addTo.mono _ _ _ _ _
      | exact impl_fitting.mono _ _ _
      | exact LeO.none _
      | refine LeO.ite ?_ ?_
      | refine LeO.bind ?_ (fun _ => ?_)
theorem impl_PermutationMixture.eqs (x : List Int) : ∀ k n i t, slices_Equal_int64_int64.l0 k x x n i = some t → t = true
  | 0, _, _, _, h => by simp [slices_Equal_int64_int64.l0] at h
  | k + 1, n, i, t, h => by
    unfold slices_Equal_int64_int64.l0 at h
    by_cases c1 : i < n
    · rw [if_pos c1] at h
      by_cases c2 : 0 ≤ i
      · rw [if_pos c2] at h
        by_cases c3 : i < (x.length : Int)
        · rw [if_pos c3, if_pos c3, if_pos rfl] at h
          exact impl_PermutationMixture.eqs x k _ _ t h
        · rw [if_neg c3] at h; cases h
      · rw [if_neg c2] at h; cases h
    · rw [if_neg c1] at h; cases h; rfl
theorem impl_PermutationMixture.idx (L : List (List Int)) (r : List Int) (hL : L.length < 5864062014805) : ∀ k (i : Nat) t, slices_IndexFunc_int64_int64_impl_Mixture_addTo_1.l0 k L (L.length : Int) (i : Int) r = some t → t < 0 → ∀ j, i ≤ j → j < L.length → L.getD j [] ≠ r
  | 0, _, _, h => by simp [slices_IndexFunc_int64_int64_impl_Mixture_addTo_1.l0] at h
  | k + 1, i, t, h => by
    intro ht j hij hj
    unfold slices_IndexFunc_int64_int64_impl_Mixture_addTo_1.l0 at h
    rw [if_pos (by omega), if_pos (by omega), if_pos (by omega)] at h
    obtain ⟨b, hb, h⟩ := Option.bind_eq_some_iff.mp h
    by_cases c : b = true
    · rw [if_pos c] at h; cases h; omega
    · rw [if_neg c, show wrap64 ((i : Int) + 1) = ((i + 1 : Nat) : Int) by unfold wrap64; omega] at h
      by_cases e : i = j
      · subst e
        intro e2
        apply c
        unfold impl_Mixture_addTo_1.f at hb
        obtain ⟨b2, hb2, hb3⟩ := Option.bind_eq_some_iff.mp hb
        cases hb3
        have e3 : rd_L1 L (i : Int) = r := e2
        rw [e3] at hb2
        unfold slices_Equal_int64_int64.f at hb2
        rw [if_pos rfl] at hb2
        exact impl_PermutationMixture.eqs r _ _ _ _ hb2
      · exact impl_PermutationMixture.idx L r hL k (i + 1) t h ht j (by omega) hj
theorem impl_PermutationMixture.nodup {k : Nat} {W W' : List Int} {L L' : List (List Int)} {r : List Int} {a : Int} (h : impl_Mixture_addTo.f k W L r a = some (W', L')) (hn : L.Nodup) : L'.Nodup := by
  unfold impl_Mixture_addTo.f at h
  obtain ⟨t, ht, h⟩ := Option.bind_eq_some_iff.mp h
  by_cases c : t < 0
  · rw [if_pos c, Option.bind_some] at h
    by_cases c2 : L.length + [r].length < 5864062014805
    · rw [if_pos c2, Option.bind_some] at h
      by_cases c3 : W.length + [a].length < 17592186044416
      · rw [if_pos c3] at h
        injection h with h
        injection h with _ h
        subst h
        rw [List.length_singleton] at c2
        rw [List.nodup_append]
        refine ⟨hn, by simp, fun x hx y hy e => ?_⟩
        rw [List.mem_singleton.1 hy] at e
        subst e
        obtain ⟨j, hj, e⟩ := List.getElem_of_mem hx
        exact impl_PermutationMixture.idx L x (by omega) k 0 t ht c j (by omega) hj (by simp [List.getD_eq_getElem?_getD, hj, e])
      · rw [if_neg c3] at h; cases h
    · rw [if_neg c2] at h; cases h
  · rw [if_neg c] at h
    by_cases c2 : 0 ≤ t
    · rw [if_pos c2] at h
      by_cases c3 : t < (W.length : Int)
      · rw [if_pos c3] at h
        injection h with h
        injection h with _ h
        subst h
        exact hn
      · rw [if_neg c3] at h; cases h
    · rw [if_neg c2] at h; cases h
theorem impl_PermutationMixture.mem {k : Nat} {W W' : List Int} {L L' : List (List Int)} {r : List Int} {a : Int} (h : impl_Mixture_addTo.f k W L r a = some (W', L')) : ∀ x ∈ L', x ∈ L ∨ x = r := by
  unfold impl_Mixture_addTo.f at h
  obtain ⟨t, ht, h⟩ := Option.bind_eq_some_iff.mp h
  by_cases c : t < 0
  · rw [if_pos c, Option.bind_some] at h
    by_cases c2 : L.length + [r].length < 5864062014805
    · rw [if_pos c2, Option.bind_some] at h
      by_cases c3 : W.length + [a].length < 17592186044416
      · rw [if_pos c3] at h
        injection h with h
        injection h with _ h
        subst h
        intro x hx
        rcases List.mem_append.1 hx with h | h
        · exact .inl h
        · exact .inr (List.mem_singleton.1 h)
      · rw [if_neg c3] at h; cases h
    · rw [if_neg c2] at h; cases h
  · rw [if_neg c] at h
    by_cases c2 : 0 ≤ t
    · rw [if_pos c2] at h
      by_cases c3 : t < (W.length : Int)
      · rw [if_pos c3] at h
        injection h with h
        injection h with _ h
        subst h
        exact fun x hx => .inl hx
      · rw [if_neg c3] at h; cases h
    · rw [if_neg c2] at h; cases h
set_option maxHeartbeats 8000000 in
set_option maxRecDepth 100000 in
theorem impl_PermutationMixture.calls (k : Nat) (A0 : Option Addr) (c0 : Nat) (l0 : List (List Int)) (r1 : List Int) (r2 : List (List Int)) (r3 : Bool) (w : World) (hr0 : Kd.C (Kd.slice 2 (Kd.int .i64)) w A0 l0.length l0) (hc0 : l0.length ≤ c0) (h : impl_PermutationMixture.f k l0 = some (r1, r2, r3)) :
    Calls Try.prog 38 #[.slice A0 l0.length c0] w fun e w' => ∃ v0_ v1_ : Value, e = .returned (.tuple #[.agg #[v0_, v1_], .bool r3]) ∧ Kd.R (Kd.int .i64) 2 w' w.heap.size (fun _ => True) v0_ r1 ∧ Kd.S (Kd.slice 2 (Kd.int .i64)) 22 w' w.heap.size (fun k_ => some k_ ≠ (v0_ : Value).ownBlock) v1_ r2 ∧ Below w.heap.size w w' := by
  have hu29 := Try.underlying29
  have HR0 := Aside0.mk hr0
  have HC0 := Aside0.mk hc0
  clear hr0 hc0
  have HB := Aside0.mk (Below.refl w.heap.size w)
  have H : ((impl_IsDoubly.f k l0).bind fun t205 => (if t205 = true then ((impl_ownRows.f k l0).bind fun t206 => (impl_PermutationMixture.l0 k t206 ([] : List Int) ([] : List (List Int)))) else (some (([] : List Int), ([] : List (List Int)), false)))) = some (r1, r2, r3) := h
  clear h
  replace H := Option.bind_eq_some_iff.mp H
  obtain ⟨t205, A20, H⟩ := H
  replace H : (if t205 = true then ((impl_ownRows.f k l0).bind fun t206 => (impl_PermutationMixture.l0 k t206 ([] : List Int) ([] : List (List Int)))) else (some (([] : List Int), ([] : List (List Int)), false))) = some (r1, r2, r3) := H
  have A2 := Aside0.mk A20
  clear A20
  by_cases c3 : t205 = true
  · subst c3
    have H1 : ((impl_ownRows.f k l0).bind fun t206 => (impl_PermutationMixture.l0 k t206 ([] : List Int) ([] : List (List Int)))) = some (r1, r2, r3) := by rw [if_pos rfl] at H; exact H
    clear H
    have H := H1
    clear H1
    replace H := Option.bind_eq_some_iff.mp H
    obtain ⟨t206, A40, H⟩ := H
    replace H : (impl_PermutationMixture.l0 k t206 ([] : List Int) ([] : List (List Int))) = some (r1, r2, r3) := H
    have A4 := Aside0.mk A40
    clear A40
    have H' := Aside0.mk H
    clear H
    go_enter Try.func38, Try.ntmps38
    go_wp2_with (first | ((with_reducible refine gate_dst (N := 2) rfl ?_); refine box_event ?hg (N := 2) ?hd (cs := #[.slice none 0 0, .slice none 0 0]) (t := 29) ?hr ?_; (case hd => rfl); (case hg => rfl); (case hr => first | (go_simp; done) | (go_simp; rfl)); intro gb204 hg w5 hbox hb; have n0_ := Aside0.mk (below_step (by repeat (first | (with_reducible first | exact HB.out | apply below_alloc | apply pw_below_drewN | apply below_drew1) | exact HB.out)) hb); have n1_ := Aside0.mk (hbox); have n2_ := Aside0.mk ((by rw [hg]; exact (below_size (by repeat (first | (with_reducible first | exact HB.out | apply below_alloc | apply pw_below_drewN | apply below_drew1) | exact HB.out))) : w.heap.size ≤ gb204)); have n3_ := Aside0.mk ((by rw [hg]; exact (below_size (by repeat (first | (with_reducible first | exact HB.out | apply below_alloc | apply pw_below_drewN | apply below_drew1) | exact HB.out))) : w.heap.size ≤ gb204)); clear HB; have HB := n0_; have BK204 := n1_; have GW204 := n2_; have GE204 := n3_; clear n0_ n1_ n2_ n3_; clear hb hbox hg) | (go_at_call 51; (with_reducible refine (impl_IsDoubly.calls k _ _ l0 true _ ?side1 ?side2 A2.out).mono ?_); (case side1 => repeat (first | exact (Kd.C_below HR0.out HB.out) | (with_reducible refine Kd.C_alloc ?_ _) | (with_reducible refine Kd.C_drewN ?_ _) | (with_reducible refine Kd.C_drew ?_))); (case side2 => exact HC0.out); rintro e w6 ⟨rfl, hb⟩; have n0_ := Aside0.mk (blk_below (g := gb204) (o := .cells #[.slice none 0 0, .slice none 0 0] 29 (0, 0)) (by (with_reducible repeat (first | refine blk_drewN ?_ _ | refine blk_drew ?_ | refine blk_alloc ?_ _)); exact BK204.out) hb); have n1_ := Aside0.mk (below_step (by repeat (first | (with_reducible first | exact HB.out | apply below_alloc | apply pw_below_drewN | apply below_drew1 | refine below_set ?_ GE204.out) | exact HB.out)) hb); clear BK204; clear HB; have BK204 := n0_; have HB := n1_; clear n0_ n1_; (try clear hb); (try clear hb2); (try clear hk); (try clear hi)) | (go_at_call 87; (with_reducible refine (impl_ownRows.calls k _ _ l0 t206 _ ?side1 ?side2 A4.out).mono ?_); (case side1 => repeat (first | exact (Kd.C_below HR0.out HB.out) | (with_reducible refine Kd.C_alloc ?_ _) | (with_reducible refine Kd.C_drewN ?_ _) | (with_reducible refine Kd.C_drew ?_))); (case side2 => exact HC0.out); rintro e w7 ⟨v207, rfl, ho0, hb⟩; have n0_ := Aside0.mk (Kd.S_lower ho0 (below_size (by repeat (first | (with_reducible first | exact HB.out | apply below_alloc | apply pw_below_drewN | apply below_drew1 | refine below_set ?_ GE204.out) | exact HB.out)))); have n1_ := Aside0.mk (blk_below (g := gb204) (o := .cells #[.slice none 0 0, .slice none 0 0] 29 (0, 0)) (by (with_reducible repeat (first | refine blk_drewN ?_ _ | refine blk_drew ?_ | refine blk_alloc ?_ _)); exact BK204.out) hb); have n2_ := Aside0.mk (below_step (by repeat (first | (with_reducible first | exact HB.out | apply below_alloc | apply pw_below_drewN | apply below_drew1 | refine below_set ?_ GE204.out) | exact HB.out)) hb); clear BK204; clear HB; have HO208 := n0_; have BK204 := n1_; have HB := n2_; clear n0_ n1_ n2_; (try clear hb); (try clear hb2); (try clear hk); (try clear hi); (try clear ho0)) | ((with_reducible refine gate_dst (N := 4) rfl ?_); refine box_event ?hg (N := 4) ?hd (cs := #[.slice none 0 0, .slice none 0 0]) (t := 29) ?hr ?_; (case hd => rfl); (case hg => rfl); (case hr => first | (go_simp; done) | (go_simp; rfl)); intro gb209 hg w8 hbox hb; have n0_ := Aside0.mk (Kd.S_below (by (with_reducible repeat (first | apply Kd.S_alloc | apply Kd.S_drewN | apply Kd.S_drew)); exact HO208.out) hb); have n1_ := Aside0.mk (blk_below (g := gb204) (o := .cells #[.slice none 0 0, .slice none 0 0] 29 (0, 0)) (by (with_reducible repeat (first | refine blk_drewN ?_ _ | refine blk_drew ?_ | refine blk_alloc ?_ _)); exact BK204.out) hb); have n2_ := Aside0.mk (below_step (by repeat (first | (with_reducible first | exact HB.out | apply below_alloc | apply pw_below_drewN | apply below_drew1 | refine below_set ?_ GE204.out) | exact HB.out)) hb); have n3_ := Aside0.mk (hbox); have n4_ := Aside0.mk ((by rw [hg]; exact (below_size (by repeat (first | (with_reducible first | exact HB.out | apply below_alloc | apply pw_below_drewN | apply below_drew1 | refine below_set ?_ GE204.out) | exact HB.out))) : w.heap.size ≤ gb209)); have n5_ := Aside0.mk ((by rw [hg]; exact (below_size (by repeat (first | (with_reducible first | exact HB.out | apply below_alloc | apply pw_below_drewN | apply below_drew1 | refine below_set ?_ GE204.out) | exact HB.out))) : w.heap.size ≤ gb209)); have n6_ := Aside0.mk ((by rw [hg]; exact Nat.ne_of_lt (blk_lt (g := gb204) (o := .cells #[.slice none 0 0, .slice none 0 0] 29 (0, 0)) (by (with_reducible repeat (first | refine blk_drewN ?_ _ | refine blk_drew ?_ | refine blk_alloc ?_ _)); exact BK204.out)) : gb204 ≠ gb209)); have n7_ := Aside0.mk ((by rw [hg]; exact Nat.ne_of_gt (blk_lt (g := gb204) (o := .cells #[.slice none 0 0, .slice none 0 0] 29 (0, 0)) (by (with_reducible repeat (first | refine blk_drewN ?_ _ | refine blk_drew ?_ | refine blk_alloc ?_ _)); exact BK204.out)) : gb209 ≠ gb204)); clear HO208; clear BK204; clear HB; have HO208 := n0_; have BK204 := n1_; have HB := n2_; have BK209 := n3_; have GW209 := n4_; have GE209 := n5_; have NB204_209 := n6_; have NB209_204 := n7_; clear n0_ n1_ n2_ n3_ n4_ n5_ n6_ n7_; clear hb hbox hg; have hnb9 := NB209_204.out; have hnc9 := NB204_209.out; have hcz10_0 : w8.cell? ⟨gb209, 0, none⟩ = some (.slice none 0 0) := (blk_cell BK209.out 0).trans rfl; have hcz10_1 : w8.cell? ⟨gb209, 1, none⟩ = some (.slice none 0 0) := (blk_cell BK209.out 1).trans rfl; have hfz10_0 := blk_frozen BK209.out 0; have hfz10_1 := blk_frozen BK209.out 1))
    repeat (go_quiet (first | ((with_reducible refine gate_dst (N := 2) rfl ?_); refine box_event ?hg (N := 2) ?hd (cs := #[.slice none 0 0, .slice none 0 0]) (t := 29) ?hr ?_; (case hd => rfl); (case hg => rfl); (case hr => first | (go_simp; done) | (go_simp; rfl)); intro gb204 hg w5 hbox hb; have n0_ := Aside0.mk (below_step (by repeat (first | (with_reducible first | exact HB.out | apply below_alloc | apply pw_below_drewN | apply below_drew1) | exact HB.out)) hb); have n1_ := Aside0.mk (hbox); have n2_ := Aside0.mk ((by rw [hg]; exact (below_size (by repeat (first | (with_reducible first | exact HB.out | apply below_alloc | apply pw_below_drewN | apply below_drew1) | exact HB.out))) : w.heap.size ≤ gb204)); have n3_ := Aside0.mk ((by rw [hg]; exact (below_size (by repeat (first | (with_reducible first | exact HB.out | apply below_alloc | apply pw_below_drewN | apply below_drew1) | exact HB.out))) : w.heap.size ≤ gb204)); clear HB; have HB := n0_; have BK204 := n1_; have GW204 := n2_; have GE204 := n3_; clear n0_ n1_ n2_ n3_; clear hb hbox hg) | (go_at_call 51; (with_reducible refine (impl_IsDoubly.calls k _ _ l0 true _ ?side1 ?side2 A2.out).mono ?_); (case side1 => repeat (first | exact (Kd.C_below HR0.out HB.out) | (with_reducible refine Kd.C_alloc ?_ _) | (with_reducible refine Kd.C_drewN ?_ _) | (with_reducible refine Kd.C_drew ?_))); (case side2 => exact HC0.out); rintro e w6 ⟨rfl, hb⟩; have n0_ := Aside0.mk (blk_below (g := gb204) (o := .cells #[.slice none 0 0, .slice none 0 0] 29 (0, 0)) (by (with_reducible repeat (first | refine blk_drewN ?_ _ | refine blk_drew ?_ | refine blk_alloc ?_ _)); exact BK204.out) hb); have n1_ := Aside0.mk (below_step (by repeat (first | (with_reducible first | exact HB.out | apply below_alloc | apply pw_below_drewN | apply below_drew1 | refine below_set ?_ GE204.out) | exact HB.out)) hb); clear BK204; clear HB; have BK204 := n0_; have HB := n1_; clear n0_ n1_; (try clear hb); (try clear hb2); (try clear hk); (try clear hi)) | (go_at_call 87; (with_reducible refine (impl_ownRows.calls k _ _ l0 t206 _ ?side1 ?side2 A4.out).mono ?_); (case side1 => repeat (first | exact (Kd.C_below HR0.out HB.out) | (with_reducible refine Kd.C_alloc ?_ _) | (with_reducible refine Kd.C_drewN ?_ _) | (with_reducible refine Kd.C_drew ?_))); (case side2 => exact HC0.out); rintro e w7 ⟨v207, rfl, ho0, hb⟩; have n0_ := Aside0.mk (Kd.S_lower ho0 (below_size (by repeat (first | (with_reducible first | exact HB.out | apply below_alloc | apply pw_below_drewN | apply below_drew1 | refine below_set ?_ GE204.out) | exact HB.out)))); have n1_ := Aside0.mk (blk_below (g := gb204) (o := .cells #[.slice none 0 0, .slice none 0 0] 29 (0, 0)) (by (with_reducible repeat (first | refine blk_drewN ?_ _ | refine blk_drew ?_ | refine blk_alloc ?_ _)); exact BK204.out) hb); have n2_ := Aside0.mk (below_step (by repeat (first | (with_reducible first | exact HB.out | apply below_alloc | apply pw_below_drewN | apply below_drew1 | refine below_set ?_ GE204.out) | exact HB.out)) hb); clear BK204; clear HB; have HO208 := n0_; have BK204 := n1_; have HB := n2_; clear n0_ n1_ n2_; (try clear hb); (try clear hb2); (try clear hk); (try clear hi); (try clear ho0)) | ((with_reducible refine gate_dst (N := 4) rfl ?_); refine box_event ?hg (N := 4) ?hd (cs := #[.slice none 0 0, .slice none 0 0]) (t := 29) ?hr ?_; (case hd => rfl); (case hg => rfl); (case hr => first | (go_simp; done) | (go_simp; rfl)); intro gb209 hg w8 hbox hb; have n0_ := Aside0.mk (Kd.S_below (by (with_reducible repeat (first | apply Kd.S_alloc | apply Kd.S_drewN | apply Kd.S_drew)); exact HO208.out) hb); have n1_ := Aside0.mk (blk_below (g := gb204) (o := .cells #[.slice none 0 0, .slice none 0 0] 29 (0, 0)) (by (with_reducible repeat (first | refine blk_drewN ?_ _ | refine blk_drew ?_ | refine blk_alloc ?_ _)); exact BK204.out) hb); have n2_ := Aside0.mk (below_step (by repeat (first | (with_reducible first | exact HB.out | apply below_alloc | apply pw_below_drewN | apply below_drew1 | refine below_set ?_ GE204.out) | exact HB.out)) hb); have n3_ := Aside0.mk (hbox); have n4_ := Aside0.mk ((by rw [hg]; exact (below_size (by repeat (first | (with_reducible first | exact HB.out | apply below_alloc | apply pw_below_drewN | apply below_drew1 | refine below_set ?_ GE204.out) | exact HB.out))) : w.heap.size ≤ gb209)); have n5_ := Aside0.mk ((by rw [hg]; exact (below_size (by repeat (first | (with_reducible first | exact HB.out | apply below_alloc | apply pw_below_drewN | apply below_drew1 | refine below_set ?_ GE204.out) | exact HB.out))) : w.heap.size ≤ gb209)); have n6_ := Aside0.mk ((by rw [hg]; exact Nat.ne_of_lt (blk_lt (g := gb204) (o := .cells #[.slice none 0 0, .slice none 0 0] 29 (0, 0)) (by (with_reducible repeat (first | refine blk_drewN ?_ _ | refine blk_drew ?_ | refine blk_alloc ?_ _)); exact BK204.out)) : gb204 ≠ gb209)); have n7_ := Aside0.mk ((by rw [hg]; exact Nat.ne_of_gt (blk_lt (g := gb204) (o := .cells #[.slice none 0 0, .slice none 0 0] 29 (0, 0)) (by (with_reducible repeat (first | refine blk_drewN ?_ _ | refine blk_drew ?_ | refine blk_alloc ?_ _)); exact BK204.out)) : gb209 ≠ gb204)); clear HO208; clear BK204; clear HB; have HO208 := n0_; have BK204 := n1_; have HB := n2_; have BK209 := n3_; have GW209 := n4_; have GE209 := n5_; have NB204_209 := n6_; have NB209_204 := n7_; clear n0_ n1_ n2_ n3_ n4_ n5_ n6_ n7_; clear hb hbox hg; have hnb9 := NB209_204.out; have hnc9 := NB204_209.out; have hcz10_0 : w8.cell? ⟨gb209, 0, none⟩ = some (.slice none 0 0) := (blk_cell BK209.out 0).trans rfl; have hcz10_1 : w8.cell? ⟨gb209, 1, none⟩ = some (.slice none 0 0) := (blk_cell BK209.out 1).trans rfl; have hfz10_0 := blk_frozen BK209.out 0; have hfz10_1 := blk_frozen BK209.out 1)); try go_wp2_with (first | ((with_reducible refine gate_dst (N := 2) rfl ?_); refine box_event ?hg (N := 2) ?hd (cs := #[.slice none 0 0, .slice none 0 0]) (t := 29) ?hr ?_; (case hd => rfl); (case hg => rfl); (case hr => first | (go_simp; done) | (go_simp; rfl)); intro gb204 hg w5 hbox hb; have n0_ := Aside0.mk (below_step (by repeat (first | (with_reducible first | exact HB.out | apply below_alloc | apply pw_below_drewN | apply below_drew1) | exact HB.out)) hb); have n1_ := Aside0.mk (hbox); have n2_ := Aside0.mk ((by rw [hg]; exact (below_size (by repeat (first | (with_reducible first | exact HB.out | apply below_alloc | apply pw_below_drewN | apply below_drew1) | exact HB.out))) : w.heap.size ≤ gb204)); have n3_ := Aside0.mk ((by rw [hg]; exact (below_size (by repeat (first | (with_reducible first | exact HB.out | apply below_alloc | apply pw_below_drewN | apply below_drew1) | exact HB.out))) : w.heap.size ≤ gb204)); clear HB; have HB := n0_; have BK204 := n1_; have GW204 := n2_; have GE204 := n3_; clear n0_ n1_ n2_ n3_; clear hb hbox hg) | (go_at_call 51; (with_reducible refine (impl_IsDoubly.calls k _ _ l0 true _ ?side1 ?side2 A2.out).mono ?_); (case side1 => repeat (first | exact (Kd.C_below HR0.out HB.out) | (with_reducible refine Kd.C_alloc ?_ _) | (with_reducible refine Kd.C_drewN ?_ _) | (with_reducible refine Kd.C_drew ?_))); (case side2 => exact HC0.out); rintro e w6 ⟨rfl, hb⟩; have n0_ := Aside0.mk (blk_below (g := gb204) (o := .cells #[.slice none 0 0, .slice none 0 0] 29 (0, 0)) (by (with_reducible repeat (first | refine blk_drewN ?_ _ | refine blk_drew ?_ | refine blk_alloc ?_ _)); exact BK204.out) hb); have n1_ := Aside0.mk (below_step (by repeat (first | (with_reducible first | exact HB.out | apply below_alloc | apply pw_below_drewN | apply below_drew1 | refine below_set ?_ GE204.out) | exact HB.out)) hb); clear BK204; clear HB; have BK204 := n0_; have HB := n1_; clear n0_ n1_; (try clear hb); (try clear hb2); (try clear hk); (try clear hi)) | (go_at_call 87; (with_reducible refine (impl_ownRows.calls k _ _ l0 t206 _ ?side1 ?side2 A4.out).mono ?_); (case side1 => repeat (first | exact (Kd.C_below HR0.out HB.out) | (with_reducible refine Kd.C_alloc ?_ _) | (with_reducible refine Kd.C_drewN ?_ _) | (with_reducible refine Kd.C_drew ?_))); (case side2 => exact HC0.out); rintro e w7 ⟨v207, rfl, ho0, hb⟩; have n0_ := Aside0.mk (Kd.S_lower ho0 (below_size (by repeat (first | (with_reducible first | exact HB.out | apply below_alloc | apply pw_below_drewN | apply below_drew1 | refine below_set ?_ GE204.out) | exact HB.out)))); have n1_ := Aside0.mk (blk_below (g := gb204) (o := .cells #[.slice none 0 0, .slice none 0 0] 29 (0, 0)) (by (with_reducible repeat (first | refine blk_drewN ?_ _ | refine blk_drew ?_ | refine blk_alloc ?_ _)); exact BK204.out) hb); have n2_ := Aside0.mk (below_step (by repeat (first | (with_reducible first | exact HB.out | apply below_alloc | apply pw_below_drewN | apply below_drew1 | refine below_set ?_ GE204.out) | exact HB.out)) hb); clear BK204; clear HB; have HO208 := n0_; have BK204 := n1_; have HB := n2_; clear n0_ n1_ n2_; (try clear hb); (try clear hb2); (try clear hk); (try clear hi); (try clear ho0)) | ((with_reducible refine gate_dst (N := 4) rfl ?_); refine box_event ?hg (N := 4) ?hd (cs := #[.slice none 0 0, .slice none 0 0]) (t := 29) ?hr ?_; (case hd => rfl); (case hg => rfl); (case hr => first | (go_simp; done) | (go_simp; rfl)); intro gb209 hg w8 hbox hb; have n0_ := Aside0.mk (Kd.S_below (by (with_reducible repeat (first | apply Kd.S_alloc | apply Kd.S_drewN | apply Kd.S_drew)); exact HO208.out) hb); have n1_ := Aside0.mk (blk_below (g := gb204) (o := .cells #[.slice none 0 0, .slice none 0 0] 29 (0, 0)) (by (with_reducible repeat (first | refine blk_drewN ?_ _ | refine blk_drew ?_ | refine blk_alloc ?_ _)); exact BK204.out) hb); have n2_ := Aside0.mk (below_step (by repeat (first | (with_reducible first | exact HB.out | apply below_alloc | apply pw_below_drewN | apply below_drew1 | refine below_set ?_ GE204.out) | exact HB.out)) hb); have n3_ := Aside0.mk (hbox); have n4_ := Aside0.mk ((by rw [hg]; exact (below_size (by repeat (first | (with_reducible first | exact HB.out | apply below_alloc | apply pw_below_drewN | apply below_drew1 | refine below_set ?_ GE204.out) | exact HB.out))) : w.heap.size ≤ gb209)); have n5_ := Aside0.mk ((by rw [hg]; exact (below_size (by repeat (first | (with_reducible first | exact HB.out | apply below_alloc | apply pw_below_drewN | apply below_drew1 | refine below_set ?_ GE204.out) | exact HB.out))) : w.heap.size ≤ gb209)); have n6_ := Aside0.mk ((by rw [hg]; exact Nat.ne_of_lt (blk_lt (g := gb204) (o := .cells #[.slice none 0 0, .slice none 0 0] 29 (0, 0)) (by (with_reducible repeat (first | refine blk_drewN ?_ _ | refine blk_drew ?_ | refine blk_alloc ?_ _)); exact BK204.out)) : gb204 ≠ gb209)); have n7_ := Aside0.mk ((by rw [hg]; exact Nat.ne_of_gt (blk_lt (g := gb204) (o := .cells #[.slice none 0 0, .slice none 0 0] 29 (0, 0)) (by (with_reducible repeat (first | refine blk_drewN ?_ _ | refine blk_drew ?_ | refine blk_alloc ?_ _)); exact BK204.out)) : gb209 ≠ gb204)); clear HO208; clear BK204; clear HB; have HO208 := n0_; have BK204 := n1_; have HB := n2_; have BK209 := n3_; have GW209 := n4_; have GE209 := n5_; have NB204_209 := n6_; have NB209_204 := n7_; clear n0_ n1_ n2_ n3_ n4_ n5_ n6_ n7_; clear hb hbox hg; have hnb9 := NB209_204.out; have hnc9 := NB204_209.out; have hcz10_0 : w8.cell? ⟨gb209, 0, none⟩ = some (.slice none 0 0) := (blk_cell BK209.out 0).trans rfl; have hcz10_1 : w8.cell? ⟨gb209, 1, none⟩ = some (.slice none 0 0) := (blk_cell BK209.out 1).trans rfl; have hfz10_0 := blk_frozen BK209.out 0; have hfz10_1 := blk_frozen BK209.out 1)))
    obtain ⟨B_, hB_⟩ : ∃ B_ : Nat, B_ = w8.heap.size := ⟨_, rfl⟩
    have HBB := Aside0.mk hB_
    clear hB_
    go_loopg [] k (fun kq w' => ∃ (x5_1 : List (List Int)) (x210000_1 : List Int) (u210000 : Value) (h_ : Nat → List Int) (x210001_1 : List (List Int)) (u210001 : Value), Aside0 (impl_PermutationMixture.l0 kq x5_1 x210000_1 x210001_1 = some (r1, r2, r3)) ∧ Aside0 (kq ≤ k) ∧ Aside0 (Kd.S (Kd.slice 2 (Kd.int .i64)) 22 w' w.heap.size (fun k_ => some k_ ≠ (u210000 : Value).ownBlock ∧ k_ < B_) v207 x5_1) ∧ Aside0 (Kd.R (Kd.int .i64) 2 w' w.heap.size (fun _ => True) u210000 x210000_1) ∧ Aside0 (w'.heap[gb204]? = some (.cells #[(.slice none 0 0), (.slice none 0 0)] 29 (0, 0))) ∧ Aside0 (w'.heap[gb209]? = some (.cells #[u210000, u210001] 29 (0, 0))) ∧ Aside0 (x210001_1.Nodup) ∧ Aside0 (Kd.N (Go.Proofs.YtlhpejabdmejbaaW.OV.ownV h_ 2) 22 w' w.heap.size (fun k_ => ((w.heap.size ≤ k_ ∧ some k_ ≠ (u210000 : Value).ownBlock ∧ k_ ≠ gb204) ∧ k_ ≠ gb209) ∧ B_ ≤ k_) u210001 x210001_1) ∧ Aside0 (∀ k_, (u210000 : Value).ownBlock = some k_ → B_ ≤ k_) ∧ Aside0 (B_ ≤ w'.heap.size) ∧ Aside0 (Below w.heap.size w w'))
    case atStart => exact ⟨(t206), (([] : List Int)), (.slice none 0 0), (fun _ => []), ([] : List (List Int)), (.slice none 0 0), H', ⟨Nat.le_refl _⟩, ⟨by (with_reducible repeat (first | apply Kd.S_alloc | apply Kd.S_drewN | apply Kd.S_drew)); exact Kd.S_mono (Kd.S_far (p := ⟨gb209, 1, none⟩) (Kd.S_far (p := ⟨gb209, 0, none⟩) (Kd.S_types (Kd.S_bound HO208.out) BK209.out (by decide)) (fun _ hk => hk.2) (.slice none 0 0)) (fun _ hk => hk.2) (.slice none 0 0)) (fun _ hk => ⟨by simp [Value.ownBlock], by rw [HBB.out]; exact hk.1.2.2.1⟩)⟩, ⟨by first | exact Kd.R_nil _ _ _ _ _ | exact Kd.N_nil _ _ _ _ _ | exact Kd.V_nil _ _ _ _ _ | exact Kd.Q_nil _ _ _ _ _ | exact Kd.S_nil _ _ _ _ _⟩, ⟨by (with_reducible repeat (first | refine blk_drewN ?_ _ | refine blk_drew ?_ | refine blk_alloc ?_ _)); refine blk_far ?_ NB204_209.out _; (with_reducible repeat (first | refine blk_drewN ?_ _ | refine blk_drew ?_ | refine blk_alloc ?_ _)); refine blk_far ?_ NB204_209.out _; (with_reducible repeat (first | refine blk_drewN ?_ _ | refine blk_drew ?_ | refine blk_alloc ?_ _)); exact BK204.out⟩, ⟨by (with_reducible repeat (first | refine blk_drewN ?_ _ | refine blk_drew ?_ | refine blk_alloc ?_ _)); refine blk_put (cs := #[.slice none 0 0, .slice none 0 0]) ?_ 1 _ rfl; (with_reducible repeat (first | refine blk_drewN ?_ _ | refine blk_drew ?_ | refine blk_alloc ?_ _)); refine blk_put (cs := #[.slice none 0 0, .slice none 0 0]) ?_ 0 _ rfl; (with_reducible repeat (first | refine blk_drewN ?_ _ | refine blk_drew ?_ | refine blk_alloc ?_ _)); exact BK209.out⟩, ⟨List.nodup_nil⟩, ⟨Kd.N_nil _ _ _ _ _⟩, ⟨fun k_ e_ => by simp [Value.ownBlock] at e_⟩, ⟨Go.Proofs.YtlhpejabdmejbaaW.OV.sz_set (Go.Proofs.YtlhpejabdmejbaaW.OV.sz_set (Nat.le_of_eq HBB.out) _ _) _ _⟩, ⟨by repeat (first | (with_reducible first | exact HB.out | apply below_alloc | apply pw_below_drewN | apply below_drew1 | refine below_set ?_ GE204.out | refine below_set ?_ GE209.out) | exact HB.out)⟩⟩
    case round =>
      clear H'
      try clear p2
      try clear c3
      try clear c9
      try clear hcz10_0
      try clear hcz10_1
      try clear hfz10_0
      try clear hfz10_1
      obtain ⟨x5_1, x210000_1, u210000, h_, x210001_1, u210001, HA, HK1, HO_5, HO_210000, BK204, BK209, ND_, HN, HW_, HBS_, HB⟩ := hrel
      obtain ⟨wr0, hwr0⟩ : ∃ wr0 : World, wr0 = wr := ⟨_, rfl⟩
      have HN0 := Aside0.mk (show Kd.N (Go.Proofs.YtlhpejabdmejbaaW.OV.ownV h_ 2) 22 wr0 w.heap.size (fun k_ => ((w.heap.size ≤ k_ ∧ some k_ ≠ (u210000 : Value).ownBlock ∧ k_ ≠ gb204) ∧ k_ ≠ gb209) ∧ B_ ≤ k_) u210001 x210001_1 from by rw [hwr0]; exact HN.out)
      have HBS0 := Aside0.mk (show B_ ≤ wr0.heap.size from by rw [hwr0]; exact HBS_.out)
      clear HN HBS_
      cases gk with
      | zero => exact absurd HA.out (by simp [impl_PermutationMixture.l0])
      | succ k1 =>
        have H := HA.out
        clear HA
        simp only [impl_PermutationMixture.l0] at H
        by_cases c11 : 0 < (x5_1.length : Int)
        · rw [if_pos c11] at H
          have c11b0 : decide (0 < (x5_1.length : Int)) = true := decide_eq_true c11
          have c11b1 : decide (0 < x5_1.length) = true := decide_eq_true (by omega)
          clear c11
          replace H := Option.bind_eq_some_iff.mp H
          obtain ⟨t211, A120, H⟩ := H
          replace H : (if t211 > 0 then (if 0 ≤ (x5_1.length : Int) then (if ((x5_1.length : Int) : Int).toNat ≤ 35184372088832 then ((impl_fitting.f k1 x5_1 ([] : List Int)).bind fun bt212 => (if 0 < (bt212.1.length : Int) then (if 0 ≤ (rd bt212.1 0) then (if (rd bt212.1 0) < ((rd_L1 x5_1 0).length : Int) then (impl_PermutationMixture.l1 k1 x5_1 bt212.1 (rd (rd_L1 x5_1 0) (rd bt212.1 0)) bt212.1 (bt212.1.length : Int) 0 x210000_1 x210001_1) else (none)) else (none)) else (none))) else (none)) else (none)) else (some (x210000_1, x210001_1, true))) = some (r1, r2, r3) := H
          have A12 := Aside0.mk A120
          clear A120
          by_cases c13 : t211 > 0
          · rw [if_pos c13] at H
            have c13b0 : decide (0 < t211) = true := decide_eq_true c13
            clear c13
            by_cases c14 : 0 ≤ (x5_1.length : Int)
            · rw [if_pos c14] at H
              have c14b0 := eq_true c14
              have c14b1 : decide (0 ≤ (x5_1.length : Int)) = true := decide_eq_true c14
              clear c14
              by_cases c15 : ((x5_1.length : Int) : Int).toNat ≤ 35184372088832
              · rw [if_pos c15] at H
                have c15b0 := eq_true c15
                have c15b1 : decide (((x5_1.length : Int) : Int).toNat ≤ 35184372088832) = true := decide_eq_true c15
                clear c15
                replace H := Option.bind_eq_some_iff.mp H
                obtain ⟨⟨y212, tb212⟩, A990, H⟩ := H
                replace H : (if 0 < (y212.length : Int) then (if 0 ≤ (rd y212 0) then (if (rd y212 0) < ((rd_L1 x5_1 0).length : Int) then (impl_PermutationMixture.l1 k1 x5_1 y212 (rd (rd_L1 x5_1 0) (rd y212 0)) y212 (y212.length : Int) 0 x210000_1 x210001_1) else (none)) else (none)) else (none)) = some (r1, r2, r3) := H
                have A99 := Aside0.mk A990
                clear A990
                by_cases c16 : 0 < (y212.length : Int)
                · rw [if_pos c16] at H
                  have c16b0 : decide (0 < (y212.length : Int)) = true := decide_eq_true c16
                  have c16b1 : decide (0 < y212.length) = true := decide_eq_true (by omega)
                  clear c16
                  by_cases c17 : 0 ≤ (rd y212 0)
                  · rw [if_pos c17] at H
                    have c17b0 : decide (0 ≤ (rd y212 0)) = true := decide_eq_true c17
                    clear c17
                    by_cases c18 : (rd y212 0) < ((rd_L1 x5_1 0).length : Int)
                    · rw [if_pos c18] at H
                      have c18b0 : decide ((rd y212 0) < ((rd_L1 x5_1 0).length : Int)) = true := decide_eq_true c18
                      clear c18
                      have H' := Aside0.mk H
                      clear H
                      obtain ⟨Ao19, co19, eo19⟩ := Kd.S_slice HO_5.out
                      subst eo19
                      have p210 : 0 ≤ (0 : Int) := (by omega)
                      have q210 : 0 < (x5_1.length : Int) := of_decide_eq_true (by first | (with_reducible assumption) | assumption)
                      obtain ⟨ad210, A210_0, c210_0, e210, hx210_0, hl210_0, hi210_0⟩ := at_L1 (Kd.S_reads' HO_5.out).2.2 0 p210 q210
                      cases e210
                      obtain ⟨ce210, hce210, hMe210, hcc210⟩ := Kd.S_get HO_5.out [] 0 p210 (by first | exact q210 | exact of_decide_eq_true (by first | (with_reducible assumption) | assumption) | (have e_ := (Kd.S_reads' HO_5.out).1; omega))
                      obtain ⟨ve210_0, rfl, ge210_0⟩ := hMe210
                      have hv210_0 := hcc210 0 _ rfl
                      rw [Nat.add_zero, show ((Kd.slice 2 (Kd.int .i64))).sz = 1 from rfl, Nat.mul_one] at hv210_0
                      replace hv210_0 := Option.some.inj (hv210_0.symm.trans hx210_0)
                      rw [hv210_0] at ge210_0
                      have HL210_0 := Aside0.mk (show Kd.R (Kd.int .i64) 2 _ _ _ _ (rd_L1 x5_1 0) from ge210_0)
                      clear hv210_0 ge210_0
                      have HX210_0 := Aside0.mk hx210_0
                      clear hcc210 hce210
                      have qi210 : (0 < x5_1.length) = True := eq_true (by omega)
                      (try rw [show ((0 : Int)).toNat = 0 from rfl] at hx210_0)
                      (try rw [Addr.add_zero'] at hx210_0)
                      have HR210_0 := Aside0.mk hi210_0
                      have HC210_0 := Aside0.mk hl210_0
                      clear hi210_0 hl210_0
                      replace p210 := eq_true p210
                      replace q210 := eq_true q210
                      go_wp2_with (first | (go_at_call 69; (with_reducible refine (impl_sum.calls k1 _ _ (rd_L1 x5_1 0) t211 _ ?side1 ?side2 A12.out).mono ?_); (case side1 => repeat (first | exact (by repeat (first | (with_reducible exact HR210_0.out) | (with_reducible refine Kd.C_alloc ?_ _) | (with_reducible refine Kd.C_drewN ?_ _) | (with_reducible refine Kd.C_drew ?_) | exact HR210_0.out)) | (with_reducible refine Kd.C_alloc ?_ _) | (with_reducible refine Kd.C_drewN ?_ _) | (with_reducible refine Kd.C_drew ?_))); (case side2 => exact HC210_0.out); rintro e w' ⟨rfl, ⟨nd, rfl⟩⟩; (try first | exact ⟨rfl, _, World.drewN_drewN _ _ _⟩ | exact ⟨rfl, _, Eq.trans (World.drewN_drewN _ _ _) (congrArg (World.drewN _) (Nat.add_assoc _ _ _))⟩)) | ((with_reducible refine gate_callee (f := 88) rfl ?_); refine goesL_ (some 27) rfl rfl Try.func88 (by kernel_rfl) rfl #[.slice (some ad210) x5_1.length co19, .slice none 0 0] rfl (by (try simp only [List.map_toArray, List.map_cons, List.map_nil]); first | done | rfl | (simp only [List.length_drop, List.length_take]; rfl)) ?_; refine (impl_fitting.calls k1 (some ad210) co19 x5_1 (fun _ => False) (.slice none 0 0) [] y212 tb212 _ _ (Below.refl _ _) (fun W_ hk_ => (Kd.S_reads' (Kd.S_kept (by (with_reducible repeat (first | apply Kd.S_alloc | apply Kd.S_drewN | apply Kd.S_drew)); exact HO_5.out) hk_ (fun _ _ h0_ => h0_))).2.2) (Kd.S_reads' HO_5.out).2.1 (Kd.R_nil _ _ _ _ _) A99.out).mono ?_; rintro e w20 ⟨v213, rfl, ho21, hb, hkp⟩; refine ⟨_, rfl, ?_⟩; clear hkp; have LF_ := Aside0.mk (show ∀ k_, (v213 : Value).ownBlock = some k_ → wr0.heap.size ≤ k_ from fun k_ e_ => by rw [hwr0]; exact (ho21.1 k_ e_).elim False.elim id); have FR := Aside0.mk (show (∀ k_, B_ ≤ k_ → k_ < wr0.heap.size → w20.heap[k_]? = wr0.heap[k_]?) ∧ wr0.heap.size ≤ w20.heap.size from ⟨fun k_ _ b_ => by rw [hwr0] at b_ ⊢; exact hb.block k_ b_, by rw [hwr0]; exact hb.size⟩); clear hwr0; have n0_ := Aside0.mk (Kd.S_elder' (by (with_reducible repeat (first | apply Kd.S_alloc | apply Kd.S_drewN | apply Kd.S_drew)); exact HO_5.out) (Kd.R_base ho21) hb); have n1_ := Aside0.mk (Kd.R_elder' (by (with_reducible repeat (first | apply Kd.R_alloc | apply Kd.R_drewN | apply Kd.R_drew)); exact HO_210000.out) (Kd.R_base ho21) hb); have n2_ := Aside0.mk (Kd.R_elder' (by (with_reducible repeat (first | apply Kd.R_alloc | apply Kd.R_drewN | apply Kd.R_drew)); exact HL210_0.out) (Kd.R_base ho21) hb); have n3_ := Aside0.mk (Kd.R_lower (Kd.R_new' (Kd.R_new' ho21 (Kd.R_lt (by (with_reducible repeat (first | apply Kd.R_alloc | apply Kd.R_drewN | apply Kd.R_drew)); exact HO_210000.out))) (Kd.R_lt (by (with_reducible repeat (first | apply Kd.R_alloc | apply Kd.R_drewN | apply Kd.R_drew)); exact HL210_0.out))) (below_size (by repeat (first | (with_reducible first | exact HB.out | apply below_alloc | apply pw_below_drewN | apply below_drew1 | refine below_set ?_ GE204.out | refine below_set ?_ GE209.out) | exact HB.out)))); have n4_ := Aside0.mk (blk_below (g := gb204) (o := .cells #[.slice none 0 0, .slice none 0 0] 29 (0, 0)) (by (with_reducible repeat (first | refine blk_drewN ?_ _ | refine blk_drew ?_ | refine blk_alloc ?_ _)); exact BK204.out) hb); have n5_ := Aside0.mk (blk_below (g := gb209) (o := .cells #[u210000, u210001] 29 (0, 0)) (by (with_reducible repeat (first | refine blk_drewN ?_ _ | refine blk_drew ?_ | refine blk_alloc ?_ _)); exact BK209.out) hb); have n6_ := Aside0.mk (Kd.C_below (by repeat (first | (with_reducible exact HR210_0.out) | (with_reducible refine Kd.C_alloc ?_ _) | (with_reducible refine Kd.C_drewN ?_ _) | (with_reducible refine Kd.C_drew ?_) | exact HR210_0.out)) hb); have n7_ := Aside0.mk (pw_cell_below hb HX210_0.out); have n8_ := Aside0.mk (below_step (by repeat (first | (with_reducible first | exact HB.out | apply below_alloc | apply pw_below_drewN | apply below_drew1 | refine below_set ?_ GE204.out | refine below_set ?_ GE209.out) | exact HB.out)) hb); clear HO_5; clear HO_210000; clear HL210_0; clear BK204; clear BK209; clear HR210_0; clear HX210_0; clear HB; have HO_5 := n0_; have HO_210000 := n1_; have HL210_0 := n2_; have HO214 := n3_; have BK204 := n4_; have BK209 := n5_; have HR210_0 := n6_; have HX210_0 := n7_; have HB := n8_; clear n0_ n1_ n2_ n3_ n4_ n5_ n6_ n7_ n8_; clear hb ho21; have p215 : 0 ≤ (0 : Int) := (by omega); have q215 : 0 < (x5_1.length : Int) := of_decide_eq_true (by first | (with_reducible assumption) | assumption); obtain ⟨ad215, A215_0, c215_0, e215, hx215_0, hl215_0, hi215_0⟩ := at_L1 (Kd.S_reads' HO_5.out).2.2 0 p215 q215; obtain rfl : ad210 = ad215 := (by injection e215); obtain ⟨ce215, hce215, hMe215, hcc215⟩ := Kd.S_get HO_5.out [] 0 p215 (by first | exact q215 | exact of_decide_eq_true (by first | (with_reducible assumption) | assumption) | (have e_ := (Kd.S_reads' HO_5.out).1; omega)); obtain ⟨ve215_0, rfl, ge215_0⟩ := hMe215; have hv215_0 := hcc215 0 _ rfl; rw [Nat.add_zero, show ((Kd.slice 2 (Kd.int .i64))).sz = 1 from rfl, Nat.mul_one] at hv215_0; replace hv215_0 := Option.some.inj (hv215_0.symm.trans hx215_0); rw [hv215_0] at ge215_0; have HL215_0 := Aside0.mk (show Kd.R (Kd.int .i64) 2 _ _ _ _ (rd_L1 x5_1 0) from ge215_0); clear hv215_0 ge215_0; have HX215_0 := Aside0.mk hx215_0; clear hcc215 hce215; have qi215 : (0 < x5_1.length) = True := eq_true (by omega); (try rw [show ((0 : Int)).toNat = 0 from rfl] at hx215_0); (try rw [Addr.add_zero'] at hx215_0); have HR215_0 := Aside0.mk hi215_0; have HC215_0 := Aside0.mk hl215_0; clear hi215_0 hl215_0; replace p215 := eq_true p215; replace q215 := eq_true q215; obtain ⟨Ao22, co22, eo22⟩ := Kd.R_slice HO214.out; subst eo22; have p216 : 0 ≤ (0 : Int) := (by omega); have q216 : 0 < (y212.length : Int) := of_decide_eq_true (by first | (with_reducible assumption) | assumption); obtain ⟨ad216, e216, hx216_0⟩ := Kd.at_int (Kd.R_reads' HO214.out).2.2 0 p216 q216; cases e216; have qi216 : (0 < y212.length) = True := eq_true (by omega); (try rw [show ((0 : Int)).toNat = 0 from rfl] at hx216_0); (try rw [Addr.add_zero'] at hx216_0); replace p216 := eq_true p216; replace q216 := eq_true q216; have p217 : 0 ≤ ((rd y212 0) : Int) := of_decide_eq_true (by first | (with_reducible assumption) | assumption); have q217 : (rd y212 0) < ((rd_L1 x5_1 0).length : Int) := of_decide_eq_true (by first | (with_reducible assumption) | assumption); obtain ⟨ad217, e217, hx217_0⟩ := Kd.at_int (by repeat (first | (with_reducible exact HR215_0.out) | (with_reducible refine Kd.C_alloc ?_ _) | (with_reducible refine Kd.C_drewN ?_ _) | (with_reducible refine Kd.C_drew ?_) | exact HR215_0.out)) (rd y212 0) p217 q217; cases e217; replace p217 := eq_true p217; replace q217 := eq_true q217))
                      repeat (go_quiet (first | (go_at_call 69; (with_reducible refine (impl_sum.calls k1 _ _ (rd_L1 x5_1 0) t211 _ ?side1 ?side2 A12.out).mono ?_); (case side1 => repeat (first | exact (by repeat (first | (with_reducible exact HR210_0.out) | (with_reducible refine Kd.C_alloc ?_ _) | (with_reducible refine Kd.C_drewN ?_ _) | (with_reducible refine Kd.C_drew ?_) | exact HR210_0.out)) | (with_reducible refine Kd.C_alloc ?_ _) | (with_reducible refine Kd.C_drewN ?_ _) | (with_reducible refine Kd.C_drew ?_))); (case side2 => exact HC210_0.out); rintro e w' ⟨rfl, ⟨nd, rfl⟩⟩; (try first | exact ⟨rfl, _, World.drewN_drewN _ _ _⟩ | exact ⟨rfl, _, Eq.trans (World.drewN_drewN _ _ _) (congrArg (World.drewN _) (Nat.add_assoc _ _ _))⟩)) | ((with_reducible refine gate_callee (f := 88) rfl ?_); refine goesL_ (some 27) rfl rfl Try.func88 (by kernel_rfl) rfl #[.slice (some ad210) x5_1.length co19, .slice none 0 0] rfl (by (try simp only [List.map_toArray, List.map_cons, List.map_nil]); first | done | rfl | (simp only [List.length_drop, List.length_take]; rfl)) ?_; refine (impl_fitting.calls k1 (some ad210) co19 x5_1 (fun _ => False) (.slice none 0 0) [] y212 tb212 _ _ (Below.refl _ _) (fun W_ hk_ => (Kd.S_reads' (Kd.S_kept (by (with_reducible repeat (first | apply Kd.S_alloc | apply Kd.S_drewN | apply Kd.S_drew)); exact HO_5.out) hk_ (fun _ _ h0_ => h0_))).2.2) (Kd.S_reads' HO_5.out).2.1 (Kd.R_nil _ _ _ _ _) A99.out).mono ?_; rintro e w20 ⟨v213, rfl, ho21, hb, hkp⟩; refine ⟨_, rfl, ?_⟩; clear hkp; have LF_ := Aside0.mk (show ∀ k_, (v213 : Value).ownBlock = some k_ → wr0.heap.size ≤ k_ from fun k_ e_ => by rw [hwr0]; exact (ho21.1 k_ e_).elim False.elim id); have FR := Aside0.mk (show (∀ k_, B_ ≤ k_ → k_ < wr0.heap.size → w20.heap[k_]? = wr0.heap[k_]?) ∧ wr0.heap.size ≤ w20.heap.size from ⟨fun k_ _ b_ => by rw [hwr0] at b_ ⊢; exact hb.block k_ b_, by rw [hwr0]; exact hb.size⟩); clear hwr0; have n0_ := Aside0.mk (Kd.S_elder' (by (with_reducible repeat (first | apply Kd.S_alloc | apply Kd.S_drewN | apply Kd.S_drew)); exact HO_5.out) (Kd.R_base ho21) hb); have n1_ := Aside0.mk (Kd.R_elder' (by (with_reducible repeat (first | apply Kd.R_alloc | apply Kd.R_drewN | apply Kd.R_drew)); exact HO_210000.out) (Kd.R_base ho21) hb); have n2_ := Aside0.mk (Kd.R_elder' (by (with_reducible repeat (first | apply Kd.R_alloc | apply Kd.R_drewN | apply Kd.R_drew)); exact HL210_0.out) (Kd.R_base ho21) hb); have n3_ := Aside0.mk (Kd.R_lower (Kd.R_new' (Kd.R_new' ho21 (Kd.R_lt (by (with_reducible repeat (first | apply Kd.R_alloc | apply Kd.R_drewN | apply Kd.R_drew)); exact HO_210000.out))) (Kd.R_lt (by (with_reducible repeat (first | apply Kd.R_alloc | apply Kd.R_drewN | apply Kd.R_drew)); exact HL210_0.out))) (below_size (by repeat (first | (with_reducible first | exact HB.out | apply below_alloc | apply pw_below_drewN | apply below_drew1 | refine below_set ?_ GE204.out | refine below_set ?_ GE209.out) | exact HB.out)))); have n4_ := Aside0.mk (blk_below (g := gb204) (o := .cells #[.slice none 0 0, .slice none 0 0] 29 (0, 0)) (by (with_reducible repeat (first | refine blk_drewN ?_ _ | refine blk_drew ?_ | refine blk_alloc ?_ _)); exact BK204.out) hb); have n5_ := Aside0.mk (blk_below (g := gb209) (o := .cells #[u210000, u210001] 29 (0, 0)) (by (with_reducible repeat (first | refine blk_drewN ?_ _ | refine blk_drew ?_ | refine blk_alloc ?_ _)); exact BK209.out) hb); have n6_ := Aside0.mk (Kd.C_below (by repeat (first | (with_reducible exact HR210_0.out) | (with_reducible refine Kd.C_alloc ?_ _) | (with_reducible refine Kd.C_drewN ?_ _) | (with_reducible refine Kd.C_drew ?_) | exact HR210_0.out)) hb); have n7_ := Aside0.mk (pw_cell_below hb HX210_0.out); have n8_ := Aside0.mk (below_step (by repeat (first | (with_reducible first | exact HB.out | apply below_alloc | apply pw_below_drewN | apply below_drew1 | refine below_set ?_ GE204.out | refine below_set ?_ GE209.out) | exact HB.out)) hb); clear HO_5; clear HO_210000; clear HL210_0; clear BK204; clear BK209; clear HR210_0; clear HX210_0; clear HB; have HO_5 := n0_; have HO_210000 := n1_; have HL210_0 := n2_; have HO214 := n3_; have BK204 := n4_; have BK209 := n5_; have HR210_0 := n6_; have HX210_0 := n7_; have HB := n8_; clear n0_ n1_ n2_ n3_ n4_ n5_ n6_ n7_ n8_; clear hb ho21; have p215 : 0 ≤ (0 : Int) := (by omega); have q215 : 0 < (x5_1.length : Int) := of_decide_eq_true (by first | (with_reducible assumption) | assumption); obtain ⟨ad215, A215_0, c215_0, e215, hx215_0, hl215_0, hi215_0⟩ := at_L1 (Kd.S_reads' HO_5.out).2.2 0 p215 q215; obtain rfl : ad210 = ad215 := (by injection e215); obtain ⟨ce215, hce215, hMe215, hcc215⟩ := Kd.S_get HO_5.out [] 0 p215 (by first | exact q215 | exact of_decide_eq_true (by first | (with_reducible assumption) | assumption) | (have e_ := (Kd.S_reads' HO_5.out).1; omega)); obtain ⟨ve215_0, rfl, ge215_0⟩ := hMe215; have hv215_0 := hcc215 0 _ rfl; rw [Nat.add_zero, show ((Kd.slice 2 (Kd.int .i64))).sz = 1 from rfl, Nat.mul_one] at hv215_0; replace hv215_0 := Option.some.inj (hv215_0.symm.trans hx215_0); rw [hv215_0] at ge215_0; have HL215_0 := Aside0.mk (show Kd.R (Kd.int .i64) 2 _ _ _ _ (rd_L1 x5_1 0) from ge215_0); clear hv215_0 ge215_0; have HX215_0 := Aside0.mk hx215_0; clear hcc215 hce215; have qi215 : (0 < x5_1.length) = True := eq_true (by omega); (try rw [show ((0 : Int)).toNat = 0 from rfl] at hx215_0); (try rw [Addr.add_zero'] at hx215_0); have HR215_0 := Aside0.mk hi215_0; have HC215_0 := Aside0.mk hl215_0; clear hi215_0 hl215_0; replace p215 := eq_true p215; replace q215 := eq_true q215; obtain ⟨Ao22, co22, eo22⟩ := Kd.R_slice HO214.out; subst eo22; have p216 : 0 ≤ (0 : Int) := (by omega); have q216 : 0 < (y212.length : Int) := of_decide_eq_true (by first | (with_reducible assumption) | assumption); obtain ⟨ad216, e216, hx216_0⟩ := Kd.at_int (Kd.R_reads' HO214.out).2.2 0 p216 q216; cases e216; have qi216 : (0 < y212.length) = True := eq_true (by omega); (try rw [show ((0 : Int)).toNat = 0 from rfl] at hx216_0); (try rw [Addr.add_zero'] at hx216_0); replace p216 := eq_true p216; replace q216 := eq_true q216; have p217 : 0 ≤ ((rd y212 0) : Int) := of_decide_eq_true (by first | (with_reducible assumption) | assumption); have q217 : (rd y212 0) < ((rd_L1 x5_1 0).length : Int) := of_decide_eq_true (by first | (with_reducible assumption) | assumption); obtain ⟨ad217, e217, hx217_0⟩ := Kd.at_int (by repeat (first | (with_reducible exact HR215_0.out) | (with_reducible refine Kd.C_alloc ?_ _) | (with_reducible refine Kd.C_drewN ?_ _) | (with_reducible refine Kd.C_drew ?_) | exact HR215_0.out)) (rd y212 0) p217 q217; cases e217; replace p217 := eq_true p217; replace q217 := eq_true q217)); try go_wp2_with (first | (go_at_call 69; (with_reducible refine (impl_sum.calls k1 _ _ (rd_L1 x5_1 0) t211 _ ?side1 ?side2 A12.out).mono ?_); (case side1 => repeat (first | exact (by repeat (first | (with_reducible exact HR210_0.out) | (with_reducible refine Kd.C_alloc ?_ _) | (with_reducible refine Kd.C_drewN ?_ _) | (with_reducible refine Kd.C_drew ?_) | exact HR210_0.out)) | (with_reducible refine Kd.C_alloc ?_ _) | (with_reducible refine Kd.C_drewN ?_ _) | (with_reducible refine Kd.C_drew ?_))); (case side2 => exact HC210_0.out); rintro e w' ⟨rfl, ⟨nd, rfl⟩⟩; (try first | exact ⟨rfl, _, World.drewN_drewN _ _ _⟩ | exact ⟨rfl, _, Eq.trans (World.drewN_drewN _ _ _) (congrArg (World.drewN _) (Nat.add_assoc _ _ _))⟩)) | ((with_reducible refine gate_callee (f := 88) rfl ?_); refine goesL_ (some 27) rfl rfl Try.func88 (by kernel_rfl) rfl #[.slice (some ad210) x5_1.length co19, .slice none 0 0] rfl (by (try simp only [List.map_toArray, List.map_cons, List.map_nil]); first | done | rfl | (simp only [List.length_drop, List.length_take]; rfl)) ?_; refine (impl_fitting.calls k1 (some ad210) co19 x5_1 (fun _ => False) (.slice none 0 0) [] y212 tb212 _ _ (Below.refl _ _) (fun W_ hk_ => (Kd.S_reads' (Kd.S_kept (by (with_reducible repeat (first | apply Kd.S_alloc | apply Kd.S_drewN | apply Kd.S_drew)); exact HO_5.out) hk_ (fun _ _ h0_ => h0_))).2.2) (Kd.S_reads' HO_5.out).2.1 (Kd.R_nil _ _ _ _ _) A99.out).mono ?_; rintro e w20 ⟨v213, rfl, ho21, hb, hkp⟩; refine ⟨_, rfl, ?_⟩; clear hkp; have LF_ := Aside0.mk (show ∀ k_, (v213 : Value).ownBlock = some k_ → wr0.heap.size ≤ k_ from fun k_ e_ => by rw [hwr0]; exact (ho21.1 k_ e_).elim False.elim id); have FR := Aside0.mk (show (∀ k_, B_ ≤ k_ → k_ < wr0.heap.size → w20.heap[k_]? = wr0.heap[k_]?) ∧ wr0.heap.size ≤ w20.heap.size from ⟨fun k_ _ b_ => by rw [hwr0] at b_ ⊢; exact hb.block k_ b_, by rw [hwr0]; exact hb.size⟩); clear hwr0; have n0_ := Aside0.mk (Kd.S_elder' (by (with_reducible repeat (first | apply Kd.S_alloc | apply Kd.S_drewN | apply Kd.S_drew)); exact HO_5.out) (Kd.R_base ho21) hb); have n1_ := Aside0.mk (Kd.R_elder' (by (with_reducible repeat (first | apply Kd.R_alloc | apply Kd.R_drewN | apply Kd.R_drew)); exact HO_210000.out) (Kd.R_base ho21) hb); have n2_ := Aside0.mk (Kd.R_elder' (by (with_reducible repeat (first | apply Kd.R_alloc | apply Kd.R_drewN | apply Kd.R_drew)); exact HL210_0.out) (Kd.R_base ho21) hb); have n3_ := Aside0.mk (Kd.R_lower (Kd.R_new' (Kd.R_new' ho21 (Kd.R_lt (by (with_reducible repeat (first | apply Kd.R_alloc | apply Kd.R_drewN | apply Kd.R_drew)); exact HO_210000.out))) (Kd.R_lt (by (with_reducible repeat (first | apply Kd.R_alloc | apply Kd.R_drewN | apply Kd.R_drew)); exact HL210_0.out))) (below_size (by repeat (first | (with_reducible first | exact HB.out | apply below_alloc | apply pw_below_drewN | apply below_drew1 | refine below_set ?_ GE204.out | refine below_set ?_ GE209.out) | exact HB.out)))); have n4_ := Aside0.mk (blk_below (g := gb204) (o := .cells #[.slice none 0 0, .slice none 0 0] 29 (0, 0)) (by (with_reducible repeat (first | refine blk_drewN ?_ _ | refine blk_drew ?_ | refine blk_alloc ?_ _)); exact BK204.out) hb); have n5_ := Aside0.mk (blk_below (g := gb209) (o := .cells #[u210000, u210001] 29 (0, 0)) (by (with_reducible repeat (first | refine blk_drewN ?_ _ | refine blk_drew ?_ | refine blk_alloc ?_ _)); exact BK209.out) hb); have n6_ := Aside0.mk (Kd.C_below (by repeat (first | (with_reducible exact HR210_0.out) | (with_reducible refine Kd.C_alloc ?_ _) | (with_reducible refine Kd.C_drewN ?_ _) | (with_reducible refine Kd.C_drew ?_) | exact HR210_0.out)) hb); have n7_ := Aside0.mk (pw_cell_below hb HX210_0.out); have n8_ := Aside0.mk (below_step (by repeat (first | (with_reducible first | exact HB.out | apply below_alloc | apply pw_below_drewN | apply below_drew1 | refine below_set ?_ GE204.out | refine below_set ?_ GE209.out) | exact HB.out)) hb); clear HO_5; clear HO_210000; clear HL210_0; clear BK204; clear BK209; clear HR210_0; clear HX210_0; clear HB; have HO_5 := n0_; have HO_210000 := n1_; have HL210_0 := n2_; have HO214 := n3_; have BK204 := n4_; have BK209 := n5_; have HR210_0 := n6_; have HX210_0 := n7_; have HB := n8_; clear n0_ n1_ n2_ n3_ n4_ n5_ n6_ n7_ n8_; clear hb ho21; have p215 : 0 ≤ (0 : Int) := (by omega); have q215 : 0 < (x5_1.length : Int) := of_decide_eq_true (by first | (with_reducible assumption) | assumption); obtain ⟨ad215, A215_0, c215_0, e215, hx215_0, hl215_0, hi215_0⟩ := at_L1 (Kd.S_reads' HO_5.out).2.2 0 p215 q215; obtain rfl : ad210 = ad215 := (by injection e215); obtain ⟨ce215, hce215, hMe215, hcc215⟩ := Kd.S_get HO_5.out [] 0 p215 (by first | exact q215 | exact of_decide_eq_true (by first | (with_reducible assumption) | assumption) | (have e_ := (Kd.S_reads' HO_5.out).1; omega)); obtain ⟨ve215_0, rfl, ge215_0⟩ := hMe215; have hv215_0 := hcc215 0 _ rfl; rw [Nat.add_zero, show ((Kd.slice 2 (Kd.int .i64))).sz = 1 from rfl, Nat.mul_one] at hv215_0; replace hv215_0 := Option.some.inj (hv215_0.symm.trans hx215_0); rw [hv215_0] at ge215_0; have HL215_0 := Aside0.mk (show Kd.R (Kd.int .i64) 2 _ _ _ _ (rd_L1 x5_1 0) from ge215_0); clear hv215_0 ge215_0; have HX215_0 := Aside0.mk hx215_0; clear hcc215 hce215; have qi215 : (0 < x5_1.length) = True := eq_true (by omega); (try rw [show ((0 : Int)).toNat = 0 from rfl] at hx215_0); (try rw [Addr.add_zero'] at hx215_0); have HR215_0 := Aside0.mk hi215_0; have HC215_0 := Aside0.mk hl215_0; clear hi215_0 hl215_0; replace p215 := eq_true p215; replace q215 := eq_true q215; obtain ⟨Ao22, co22, eo22⟩ := Kd.R_slice HO214.out; subst eo22; have p216 : 0 ≤ (0 : Int) := (by omega); have q216 : 0 < (y212.length : Int) := of_decide_eq_true (by first | (with_reducible assumption) | assumption); obtain ⟨ad216, e216, hx216_0⟩ := Kd.at_int (Kd.R_reads' HO214.out).2.2 0 p216 q216; cases e216; have qi216 : (0 < y212.length) = True := eq_true (by omega); (try rw [show ((0 : Int)).toNat = 0 from rfl] at hx216_0); (try rw [Addr.add_zero'] at hx216_0); replace p216 := eq_true p216; replace q216 := eq_true q216; have p217 : 0 ≤ ((rd y212 0) : Int) := of_decide_eq_true (by first | (with_reducible assumption) | assumption); have q217 : (rd y212 0) < ((rd_L1 x5_1 0).length : Int) := of_decide_eq_true (by first | (with_reducible assumption) | assumption); obtain ⟨ad217, e217, hx217_0⟩ := Kd.at_int (by repeat (first | (with_reducible exact HR215_0.out) | (with_reducible refine Kd.C_alloc ?_ _) | (with_reducible refine Kd.C_drewN ?_ _) | (with_reducible refine Kd.C_drew ?_) | exact HR215_0.out)) (rd y212 0) p217 q217; cases e217; replace p217 := eq_true p217; replace q217 := eq_true q217)))
                      go_loopg [8, 40] k1 (fun kq v8 v40 w' => ∃ (x8_2 : Int) (x40_2 : Int), v8 = .int .i64 x8_2 ∧ v40 = .int .i64 x40_2 ∧ Aside0 (impl_PermutationMixture.l1 kq x5_1 y212 x8_2 y212 (y212.length : Int) x40_2 x210000_1 x210001_1 = some (r1, r2, r3)) ∧ Aside0 (kq ≤ k1) ∧ Aside0 (Kd.S (Kd.slice 2 (Kd.int .i64)) 22 w' w.heap.size (fun k_ => some k_ ≠ ((.slice (some ad216) y212.length co22) : Value).ownBlock ∧ some k_ ≠ ((.slice (some ad216) y212.length co22) : Value).ownBlock ∧ some k_ ≠ (u210000 : Value).ownBlock ∧ k_ < B_) (.slice (some ad210) x5_1.length co19) x5_1) ∧ Aside0 (Kd.R (Kd.int .i64) 2 w' w.heap.size (fun k_ => some k_ ≠ (u210000 : Value).ownBlock) (.slice (some ad216) y212.length co22) y212) ∧ Aside0 (Kd.R (Kd.int .i64) 2 w' w.heap.size (fun k_ => some k_ ≠ (u210000 : Value).ownBlock) (.slice (some ad216) y212.length co22) y212) ∧ Aside0 (Kd.R (Kd.int .i64) 2 w' w.heap.size (fun k_ => some k_ ≠ ((.slice (some ad216) y212.length co22) : Value).ownBlock ∧ some k_ ≠ ((.slice (some ad216) y212.length co22) : Value).ownBlock) u210000 x210000_1) ∧ Aside0 (w'.heap[gb204]? = some (.cells #[(.slice none 0 0), (.slice none 0 0)] 29 (0, 0))) ∧ Aside0 (w'.heap[gb209]? = some (.cells #[u210000, u210001] 29 (0, 0))) ∧ Aside0 (Kd.C (Kd.int .i64) w' A210_0 (rd_L1 x5_1 0).length (rd_L1 x5_1 0)) ∧ Aside0 (Kd.C (Kd.int .i64) w' (some ad217) (rd_L1 x5_1 0).length (rd_L1 x5_1 0)) ∧ Aside0 ((∀ k_, B_ ≤ k_ → k_ < wr0.heap.size → w'.heap[k_]? = wr0.heap[k_]?) ∧ wr0.heap.size ≤ w'.heap.size) ∧ Aside0 (Below w.heap.size w w'))
                      case atStart => exact ⟨(rd (rd_L1 x5_1 0) (rd y212 0)), (0), (by first | rfl | (simp; done) | (simp [*]; done)), (by first | rfl | (simp; done) | (simp [*]; done)), H', ⟨Nat.le_refl _⟩, ⟨by (with_reducible repeat (first | apply Kd.S_alloc | apply Kd.S_drewN | apply Kd.S_drew)); exact Kd.S_mono HO_5.out (fun _ hk => ⟨hk.2, ⟨hk.2, hk.1⟩⟩)⟩, ⟨by (with_reducible repeat (first | apply Kd.R_alloc | apply Kd.R_drewN | apply Kd.R_drew)); exact Kd.R_mono HO214.out (fun _ hk => hk.1.2)⟩, ⟨by (with_reducible repeat (first | apply Kd.R_alloc | apply Kd.R_drewN | apply Kd.R_drew)); exact Kd.R_mono HO214.out (fun _ hk => hk.1.2)⟩, ⟨by (with_reducible repeat (first | apply Kd.R_alloc | apply Kd.R_drewN | apply Kd.R_drew)); exact Kd.R_mono HO_210000.out (fun _ hk => ⟨hk.2, hk.2⟩)⟩, ⟨by (with_reducible repeat (first | refine blk_drewN ?_ _ | refine blk_drew ?_ | refine blk_alloc ?_ _)); exact BK204.out⟩, ⟨by (with_reducible repeat (first | refine blk_drewN ?_ _ | refine blk_drew ?_ | refine blk_alloc ?_ _)); exact BK209.out⟩, ⟨by repeat (first | (with_reducible exact HR210_0.out) | (with_reducible refine Kd.C_alloc ?_ _) | (with_reducible refine Kd.C_drewN ?_ _) | (with_reducible refine Kd.C_drew ?_) | exact HR210_0.out)⟩, ⟨by repeat (first | (with_reducible exact HR215_0.out) | (with_reducible refine Kd.C_alloc ?_ _) | (with_reducible refine Kd.C_drewN ?_ _) | (with_reducible refine Kd.C_drew ?_) | exact HR215_0.out)⟩, ⟨FR.out⟩, ⟨by repeat (first | (with_reducible first | exact HB.out | apply below_alloc | apply pw_below_drewN | apply below_drew1 | refine below_set ?_ GE204.out | refine below_set ?_ GE209.out) | exact HB.out)⟩⟩
                      case round =>
                        clear H'
                        try clear c1
                        try clear c2
                        try clear p2
                        try clear q2
                        try clear hx2
                        try clear qi2
                        try clear c3
                        try clear c9
                        try clear c11
                        try clear c11b0
                        try clear c11b1
                        try clear c13
                        try clear c13b0
                        try clear c14
                        try clear c14b0
                        try clear c14b1
                        try clear c15
                        try clear c15b0
                        try clear c15b1
                        try clear c16
                        try clear c16b0
                        try clear c16b1
                        try clear c17
                        try clear c17b0
                        try clear c18
                        try clear c18b0
                        try clear c21
                        try clear p21
                        try clear q21
                        try clear hx21
                        try clear qi21
                        try clear hcz10_0
                        try clear hcz10_1
                        try clear hfz10_0
                        try clear hfz10_1
                        try clear hx210_0
                        try clear hx215_0
                        try clear hx216_0
                        try clear hx217_0
                        try clear p2
                        try clear p210
                        try clear p215
                        try clear p216
                        try clear p217
                        try clear q210
                        try clear q215
                        try clear q216
                        try clear q217
                        obtain ⟨x8_2, x40_2, rfl, rfl, HA, HK2, HO_5, HO_6, HO_38, HO_210000, BK204, BK209, HR210_0, HR215_0, FR, HB⟩ := hrel
                        cases gk with
                        | zero => exact absurd HA.out (by simp [impl_PermutationMixture.l1])
                        | succ k2 =>
                          have H := HA.out
                          clear HA
                          simp only [impl_PermutationMixture.l1] at H
                          by_cases c23 : x40_2 < (y212.length : Int)
                          · rw [if_pos c23] at H
                            have c23b0 : decide (x40_2 < (y212.length : Int)) = true := decide_eq_true c23
                            clear c23
                            by_cases c24 : 0 ≤ x40_2
                            · rw [if_pos c24] at H
                              have c24b0 : decide (0 ≤ x40_2) = true := decide_eq_true c24
                              clear c24
                              by_cases c25 : x40_2 < (y212.length : Int)
                              · rw [if_pos c25] at H
                                have c25b0 : decide (x40_2 < (y212.length : Int)) = true := decide_eq_true c25
                                clear c25
                                by_cases c26 : x40_2 < (x5_1.length : Int)
                                · rw [if_pos c26] at H
                                  have c26b0 : decide (x40_2 < (x5_1.length : Int)) = true := decide_eq_true c26
                                  clear c26
                                  by_cases c27 : 0 ≤ (rd y212 x40_2)
                                  · rw [if_pos c27] at H
                                    have c27b0 : decide (0 ≤ (rd y212 x40_2)) = true := decide_eq_true c27
                                    clear c27
                                    by_cases c28 : (rd y212 x40_2) < ((rd_L1 x5_1 x40_2).length : Int)
                                    · rw [if_pos c28] at H
                                      have c28b0 : decide ((rd y212 x40_2) < ((rd_L1 x5_1 x40_2).length : Int)) = true := decide_eq_true c28
                                      clear c28
                                      obtain ⟨ji29, hji29⟩ : ∃ j_ : Int, (mn x8_2 (rd (rd_L1 x5_1 x40_2) (rd y212 x40_2))) = j_ := ⟨_, rfl⟩
                                      replace H : (impl_PermutationMixture.l1 k2 x5_1 y212 ji29 y212 (y212.length : Int) (wrap64 (x40_2 + 1)) x210000_1 x210001_1) = some (r1, r2, r3) := by first | (rw [hji29] at H; exact H) | (simp only [hji29] at H ⊢; exact H)
                                      have hji29_ : (if (rd (rd_L1 x5_1 x40_2) (rd y212 x40_2)) < x8_2 then (rd (rd_L1 x5_1 x40_2) (rd y212 x40_2)) else x8_2) = ji29 := hji29
                                      have H' := Aside0.mk H
                                      clear H
                                      have p218 : 0 ≤ (x40_2 : Int) := of_decide_eq_true (by first | (with_reducible assumption) | assumption)
                                      have q218 : x40_2 < (y212.length : Int) := of_decide_eq_true (by first | (with_reducible assumption) | assumption)
                                      obtain ⟨ad218, e218, hx218_0⟩ := Kd.at_int (Kd.R_reads' HO_38.out).2.2 x40_2 p218 q218
                                      obtain rfl : ad216 = ad218 := (by injection e218)
                                      replace p218 := eq_true p218
                                      replace q218 := eq_true q218
                                      have p219 : 0 ≤ (x40_2 : Int) := of_decide_eq_true (by first | (with_reducible assumption) | assumption)
                                      have q219 : x40_2 < (x5_1.length : Int) := of_decide_eq_true (by first | (with_reducible assumption) | assumption)
                                      obtain ⟨ad219, A219_0, c219_0, e219, hx219_0, hl219_0, hi219_0⟩ := at_L1 (Kd.S_reads' HO_5.out).2.2 x40_2 p219 q219
                                      obtain rfl : ad210 = ad219 := (by injection e219)
                                      obtain ⟨ce219, hce219, hMe219, hcc219⟩ := Kd.S_get HO_5.out [] x40_2 p219 (by first | exact q219 | exact of_decide_eq_true (by first | (with_reducible assumption) | assumption) | (have e_ := (Kd.S_reads' HO_5.out).1; omega))
                                      obtain ⟨ve219_0, rfl, ge219_0⟩ := hMe219
                                      have hv219_0 := hcc219 0 _ rfl
                                      rw [Nat.add_zero, show ((Kd.slice 2 (Kd.int .i64))).sz = 1 from rfl, Nat.mul_one] at hv219_0
                                      replace hv219_0 := Option.some.inj (hv219_0.symm.trans hx219_0)
                                      rw [hv219_0] at ge219_0
                                      have HL219_0 := Aside0.mk (show Kd.R (Kd.int .i64) 2 _ _ _ _ (rd_L1 x5_1 x40_2) from ge219_0)
                                      clear hv219_0 ge219_0
                                      have HX219_0 := Aside0.mk hx219_0
                                      clear hcc219 hce219
                                      have HR219_0 := Aside0.mk hi219_0
                                      have HC219_0 := Aside0.mk hl219_0
                                      clear hi219_0 hl219_0
                                      replace p219 := eq_true p219
                                      replace q219 := eq_true q219
                                      have p220 : 0 ≤ ((rd y212 x40_2) : Int) := of_decide_eq_true (by first | (with_reducible assumption) | assumption)
                                      have q220 : (rd y212 x40_2) < ((rd_L1 x5_1 x40_2).length : Int) := of_decide_eq_true (by first | (with_reducible assumption) | assumption)
                                      obtain ⟨ad220, e220, hx220_0⟩ := Kd.at_int (by repeat (first | (with_reducible exact HR219_0.out) | (with_reducible refine Kd.C_alloc ?_ _) | (with_reducible refine Kd.C_drewN ?_ _) | (with_reducible refine Kd.C_drew ?_) | exact HR219_0.out)) (rd y212 x40_2) p220 q220
                                      cases e220
                                      replace p220 := eq_true p220
                                      replace q220 := eq_true q220
                                      go_wp2
                                      repeat (go_quiet (fail); try go_wp2)
                                      go_roundg k2
                                      case measure => have := HK1.out; have := HK2.out; omega
                                      case rel => exact ⟨(ji29), (wrap64 (x40_2 + 1)), (by first | rfl | (simp; done) | (simp only [← hji29] <;> (first | rfl | simp)) | (simp [*]; done)), (by first | rfl | (simp; done) | (simp [*]; done)), H', ⟨by have := HK1.out; have := HK2.out; omega⟩, ⟨by (with_reducible repeat (first | apply Kd.S_alloc | apply Kd.S_drewN | apply Kd.S_drew)); exact HO_5.out⟩, ⟨by (with_reducible repeat (first | apply Kd.R_alloc | apply Kd.R_drewN | apply Kd.R_drew)); exact HO_6.out⟩, ⟨by (with_reducible repeat (first | apply Kd.R_alloc | apply Kd.R_drewN | apply Kd.R_drew)); exact HO_38.out⟩, ⟨by (with_reducible repeat (first | apply Kd.R_alloc | apply Kd.R_drewN | apply Kd.R_drew)); exact HO_210000.out⟩, ⟨by (with_reducible repeat (first | refine blk_drewN ?_ _ | refine blk_drew ?_ | refine blk_alloc ?_ _)); exact BK204.out⟩, ⟨by (with_reducible repeat (first | refine blk_drewN ?_ _ | refine blk_drew ?_ | refine blk_alloc ?_ _)); exact BK209.out⟩, ⟨by repeat (first | (with_reducible exact HR210_0.out) | (with_reducible refine Kd.C_alloc ?_ _) | (with_reducible refine Kd.C_drewN ?_ _) | (with_reducible refine Kd.C_drew ?_) | exact HR210_0.out)⟩, ⟨by repeat (first | (with_reducible exact HR215_0.out) | (with_reducible refine Kd.C_alloc ?_ _) | (with_reducible refine Kd.C_drewN ?_ _) | (with_reducible refine Kd.C_drew ?_) | exact HR215_0.out)⟩, ⟨FR.out⟩, ⟨by repeat (first | (with_reducible first | exact HB.out | apply below_alloc | apply pw_below_drewN | apply below_drew1 | refine below_set ?_ GE204.out | refine below_set ?_ GE209.out) | exact HB.out)⟩⟩
                                    · rw [if_neg c28] at H
                                      exact absurd H (by simp)
                                  · rw [if_neg c27] at H
                                    exact absurd H (by simp)
                                · rw [if_neg c26] at H
                                  exact absurd H (by simp)
                              · rw [if_neg c25] at H
                                exact absurd H (by simp)
                            · rw [if_neg c24] at H
                              exact absurd H (by simp)
                          · rw [if_neg c23] at H
                            have c23b0 : decide (x40_2 < (y212.length : Int)) = false := decide_eq_false c23
                            clear c23
                            have H' := Aside0.mk H
                            clear H
                            go_wp2
                            repeat (go_quiet (fail); try go_wp2)
                            go_loopg [57] k2 (fun kq v57 w' => ∃ (x5_3 : List (List Int)) (x55_3 : List Int) (x57_3 : Int), v57 = .int .i64 x57_3 ∧ Aside0 (impl_PermutationMixture.l2 kq x5_3 x8_2 x55_3 (y212.length : Int) x57_3 x210000_1 x210001_1 = some (r1, r2, r3)) ∧ Aside0 (kq ≤ k2) ∧ Aside0 (Kd.S (Kd.slice 2 (Kd.int .i64)) 22 w' w.heap.size (fun k_ => some k_ ≠ ((.slice (some ad216) y212.length co22) : Value).ownBlock ∧ some k_ ≠ (u210000 : Value).ownBlock ∧ k_ < B_) (.slice (some ad210) x5_1.length co19) x5_3) ∧ Aside0 (Kd.R (Kd.int .i64) 2 w' w.heap.size (fun k_ => some k_ ≠ (u210000 : Value).ownBlock) (.slice (some ad216) y212.length co22) x55_3) ∧ Aside0 (Kd.R (Kd.int .i64) 2 w' w.heap.size (fun k_ => some k_ ≠ ((.slice (some ad216) y212.length co22) : Value).ownBlock) u210000 x210000_1) ∧ Aside0 (w'.heap[gb204]? = some (.cells #[(.slice none 0 0), (.slice none 0 0)] 29 (0, 0))) ∧ Aside0 (w'.heap[gb209]? = some (.cells #[u210000, u210001] 29 (0, 0))) ∧ Aside0 ((∀ k_, B_ ≤ k_ → k_ < wr0.heap.size → w'.heap[k_]? = wr0.heap[k_]?) ∧ wr0.heap.size ≤ w'.heap.size) ∧ Aside0 (Below w.heap.size w w'))
                            case atStart => exact ⟨(x5_1), (y212), (0), (by first | rfl | (simp; done) | (simp [*]; done)), H', ⟨Nat.le_refl _⟩, ⟨by (with_reducible repeat (first | apply Kd.S_alloc | apply Kd.S_drewN | apply Kd.S_drew)); exact Kd.S_mono HO_5.out (fun _ hk => ⟨hk.1, hk.2.2⟩)⟩, ⟨by (with_reducible repeat (first | apply Kd.R_alloc | apply Kd.R_drewN | apply Kd.R_drew)); exact HO_6.out⟩, ⟨by (with_reducible repeat (first | apply Kd.R_alloc | apply Kd.R_drewN | apply Kd.R_drew)); exact Kd.R_mono HO_210000.out (fun _ hk => hk.1)⟩, ⟨by (with_reducible repeat (first | refine blk_drewN ?_ _ | refine blk_drew ?_ | refine blk_alloc ?_ _)); exact BK204.out⟩, ⟨by (with_reducible repeat (first | refine blk_drewN ?_ _ | refine blk_drew ?_ | refine blk_alloc ?_ _)); exact BK209.out⟩, ⟨FR.out⟩, ⟨by repeat (first | (with_reducible first | exact HB.out | apply below_alloc | apply pw_below_drewN | apply below_drew1 | refine below_set ?_ GE204.out | refine below_set ?_ GE209.out) | exact HB.out)⟩⟩
                            case round =>
                              clear H'
                              try clear c1
                              try clear c2
                              try clear p2
                              try clear q2
                              try clear hx2
                              try clear qi2
                              try clear c3
                              try clear p6
                              try clear c9
                              try clear c11
                              try clear c11b0
                              try clear c11b1
                              try clear c13
                              try clear c13b0
                              try clear c14
                              try clear c14b0
                              try clear c14b1
                              try clear c15
                              try clear c15b0
                              try clear c15b1
                              try clear c16
                              try clear c16b0
                              try clear c16b1
                              try clear c17
                              try clear c17b0
                              try clear c18
                              try clear c18b0
                              try clear c21
                              try clear p21
                              try clear q21
                              try clear hx21
                              try clear qi21
                              try clear p22
                              try clear q22
                              try clear hx22
                              try clear c23
                              try clear c23b0
                              try clear c24
                              try clear c24b0
                              try clear c25
                              try clear c25b0
                              try clear c26
                              try clear c26b0
                              try clear c27
                              try clear c27b0
                              try clear c28
                              try clear c28b0
                              try clear hcz10_0
                              try clear hcz10_1
                              try clear hfz10_0
                              try clear hfz10_1
                              try clear hx210_0
                              try clear hx215_0
                              try clear hx216_0
                              try clear hx217_0
                              try clear hx218_0
                              try clear hx219_0
                              try clear hx220_0
                              try clear p2
                              try clear p21
                              try clear p210
                              try clear p215
                              try clear p216
                              try clear p217
                              try clear p218
                              try clear p219
                              try clear p220
                              try clear q2
                              try clear q21
                              try clear q210
                              try clear q215
                              try clear q216
                              try clear q217
                              try clear q218
                              try clear q219
                              try clear q220
                              obtain ⟨x5_3, x55_3, x57_3, rfl, HA, HK3, HO_5, HO_55, HO_210000, BK204, BK209, FR, HB⟩ := hrel
                              have hl5_3 := (Kd.S_reads' HO_5.out).1
                              rw [hl5_3] at HO_5
                              (try simp only [hl5_3])
                              (try simp only [hl5_3] at BK204)
                              (try simp only [hl5_3] at BK209)
                              (try simp only [hl5_3] at HO_55)
                              (try simp only [hl5_3] at HO_210000)
                              have hl55_3 := (Kd.R_reads' HO_55.out).1
                              rw [hl55_3] at HO_55
                              (try simp only [hl55_3])
                              (try simp only [hl55_3] at BK204)
                              (try simp only [hl55_3] at BK209)
                              (try simp only [hl55_3] at HO_5)
                              (try simp only [hl55_3] at HO_210000)
                              cases gk with
                              | zero => exact absurd HA.out (by simp [impl_PermutationMixture.l2])
                              | succ k3 =>
                                have H := HA.out
                                clear HA
                                simp only [impl_PermutationMixture.l2] at H
                                by_cases c30 : x57_3 < (y212.length : Int)
                                · rw [if_pos c30] at H
                                  have c30b0 : decide (x57_3 < (y212.length : Int)) = true := decide_eq_true c30
                                  clear c30
                                  by_cases c31 : 0 ≤ x57_3
                                  · rw [if_pos c31] at H
                                    have c31b0 : decide (0 ≤ x57_3) = true := decide_eq_true c31
                                    clear c31
                                    by_cases c32 : x57_3 < (x55_3.length : Int)
                                    · rw [if_pos c32] at H
                                      have c32b0 : decide (x57_3 < (x55_3.length : Int)) = true := decide_eq_true c32
                                      clear c32
                                      by_cases c33 : x57_3 < (x5_3.length : Int)
                                      · rw [if_pos c33] at H
                                        have c33b0 : decide (x57_3 < (x5_3.length : Int)) = true := decide_eq_true c33
                                        clear c33
                                        by_cases c34 : 0 ≤ (rd x55_3 x57_3)
                                        · rw [if_pos c34] at H
                                          have c34b0 : decide (0 ≤ (rd x55_3 x57_3)) = true := decide_eq_true c34
                                          clear c34
                                          by_cases c35 : (rd x55_3 x57_3) < ((rd_L1 x5_3 x57_3).length : Int)
                                          · rw [if_pos c35] at H
                                            have c35b0 : decide ((rd x55_3 x57_3) < ((rd_L1 x5_3 x57_3).length : Int)) = true := decide_eq_true c35
                                            clear c35
                                            obtain ⟨y224, hy224⟩ : ∃ y_ : List Int, y_ = ((rd_L1 x5_3 x57_3).set ((rd x55_3 x57_3) : Int).toNat (wrap64 ((rd (rd_L1 x5_3 x57_3) (rd x55_3 x57_3)) - x8_2))) := ⟨_, rfl⟩
                                            replace H : (impl_PermutationMixture.l2 k3 (x5_3.set (x57_3 : Int).toNat y224) x8_2 x55_3 (y212.length : Int) (wrap64 (x57_3 + 1)) x210000_1 x210001_1) = some (r1, r2, r3) := by first | (rw [hy224]; with_reducible exact H) | (have H2_ := (Option.bind_some _ _).symm.trans H; rw [hy224]; with_reducible exact H2_) | (have H2_ := (Option.bind_some _ _).symm.trans H; with_reducible exact H2_) | with_reducible exact H | (rw [hy224]; exact H) | exact H
                                            have Ny224 := Aside0.mk hy224
                                            clear hy224
                                            obtain ⟨y226, hy226⟩ : ∃ y_ : List (List Int), y_ = (x5_3.set (x57_3 : Int).toNat y224) := ⟨_, rfl⟩
                                            replace H : (impl_PermutationMixture.l2 k3 y226 x8_2 x55_3 (y212.length : Int) (wrap64 (x57_3 + 1)) x210000_1 x210001_1) = some (r1, r2, r3) := by first | (rw [hy226]; with_reducible exact H) | (have H2_ := (Option.bind_some _ _).symm.trans H; rw [hy226]; with_reducible exact H2_) | (have H2_ := (Option.bind_some _ _).symm.trans H; with_reducible exact H2_) | with_reducible exact H | (rw [hy226]; exact H) | exact H
                                            have Ny226 := Aside0.mk hy226
                                            clear hy226
                                            have H' := Aside0.mk H
                                            clear H
                                            have p221 : 0 ≤ (x57_3 : Int) := of_decide_eq_true (by first | (with_reducible assumption) | assumption)
                                            have q221 : x57_3 < (x55_3.length : Int) := of_decide_eq_true (by first | (with_reducible assumption) | assumption)
                                            obtain ⟨ad221, e221, hx221_0⟩ := Kd.at_int (Kd.R_reads' HO_55.out).2.2 x57_3 p221 q221
                                            obtain rfl : ad216 = ad221 := (by injection e221)
                                            replace p221 := eq_true p221
                                            replace q221 := eq_true q221
                                            have p222 : 0 ≤ (x57_3 : Int) := of_decide_eq_true (by first | (with_reducible assumption) | assumption)
                                            have q222 : x57_3 < (x5_3.length : Int) := of_decide_eq_true (by first | (with_reducible assumption) | assumption)
                                            obtain ⟨ad222, A222_0, c222_0, e222, hx222_0, hl222_0, hi222_0⟩ := at_L1 (Kd.S_reads' HO_5.out).2.2 x57_3 p222 q222
                                            obtain rfl : ad210 = ad222 := (by injection e222)
                                            obtain ⟨ce222, hce222, hMe222, hcc222⟩ := Kd.S_get HO_5.out [] x57_3 p222 (by first | exact q222 | exact of_decide_eq_true (by first | (with_reducible assumption) | assumption) | (have e_ := (Kd.S_reads' HO_5.out).1; omega))
                                            obtain ⟨ve222_0, rfl, ge222_0⟩ := hMe222
                                            have hv222_0 := hcc222 0 _ rfl
                                            rw [Nat.add_zero, show ((Kd.slice 2 (Kd.int .i64))).sz = 1 from rfl, Nat.mul_one] at hv222_0
                                            replace hv222_0 := Option.some.inj (hv222_0.symm.trans hx222_0)
                                            rw [hv222_0] at ge222_0
                                            have HL222_0 := Aside0.mk (show Kd.R (Kd.int .i64) 2 _ _ _ _ (rd_L1 x5_3 x57_3) from ge222_0)
                                            clear hv222_0 ge222_0
                                            have HX222_0 := Aside0.mk hx222_0
                                            clear hcc222 hce222
                                            have HR222_0 := Aside0.mk hi222_0
                                            have HC222_0 := Aside0.mk hl222_0
                                            clear hi222_0 hl222_0
                                            replace p222 := eq_true p222
                                            replace q222 := eq_true q222
                                            have p223 : 0 ≤ ((rd x55_3 x57_3) : Int) := of_decide_eq_true (by first | (with_reducible assumption) | assumption)
                                            have q223 : (rd x55_3 x57_3) < ((rd_L1 x5_3 x57_3).length : Int) := of_decide_eq_true (by first | (with_reducible assumption) | assumption)
                                            obtain ⟨ad223, e223, hx223_0⟩ := Kd.at_int (by repeat (first | (with_reducible exact HR222_0.out) | (with_reducible refine Kd.C_alloc ?_ _) | (with_reducible refine Kd.C_drewN ?_ _) | (with_reducible refine Kd.C_drew ?_) | exact HR222_0.out)) (rd x55_3 x57_3) p223 q223
                                            cases e223
                                            replace p223 := eq_true p223
                                            replace q223 := eq_true q223
                                            have p36 : 0 ≤ ((rd x55_3 x57_3) : Int) := of_decide_eq_true (by first | (with_reducible assumption) | assumption)
                                            have q36 : ((rd x55_3 x57_3) : Int) < (((rd_L1 x5_3 x57_3).length : Int) : Int) := of_decide_eq_true (by first | (with_reducible assumption) | assumption)
                                            obtain ⟨go36, co36, eo36, gb36, gl36, cl36, HG36⟩ := Kd.R_form HL222_0.out (by omega)
                                            (first | cases eo36 | (injection eo36 with ea_ en_ ec_; (first | subst ea_ | (injection ea_ with ea_; subst ea_)); subst ec_; clear en_))
                                            have GB36 := Aside0.mk gb36
                                            have GG36 := Aside0.mk HG36
                                            clear gb36 gl36 HG36
                                            (first | simp only [add_plain] at hx223_0 | skip)
                                            obtain ⟨hx36_0, hf36_0⟩ := Kd.R_celln 0 HL222_0.out ((rd x55_3 x57_3) : Int) p36 q36
                                            replace p36 := eq_true p36
                                            replace q36 := eq_true q36
                                            have hq37 : (x57_3 : Int) < (x5_3.length : Int) := (by have h_ : (x57_3 : Int) < ((x5_3.length : Int) : Int) := of_decide_eq_true (by first | (with_reducible assumption) | assumption); first | exact h_ | (have e_ := (Kd.S_reads' HO_5.out).1; omega) | simpa only [List.length_set, List.length_set] using h_)
                                            obtain ⟨oki37, ce37, hcl37, hM37, hcc37, hok37, hbk37⟩ := Kd.S_borrow HO_5.out [] (x57_3 : Int) (of_decide_eq_true (by first | (with_reducible assumption) | assumption)) hq37
                                            obtain ⟨ve37_0, rfl, ge37_0⟩ := hM37
                                            have hv37 := hcc37 0 _ rfl
                                            rw [Nat.add_zero, show ((Kd.slice 2 (Kd.int .i64))).sz = 1 from rfl, Nat.mul_one] at hv37
                                            replace hv37 := Option.some.inj (hv37.symm.trans HX222_0.out)
                                            subst hv37
                                            clear hcc37 hcl37
                                            replace ge37_0 := (show Kd.R (Kd.int .i64) 2 _ _ _ _ (rd_L1 x5_3 x57_3) from ge37_0)
                                            have HP37 := Kd.R_putg ge37_0 ((rd x55_3 x57_3) : Int) (wrap64 ((rd (rd_L1 x5_3 x57_3) (rd x55_3 x57_3)) - x8_2))
                                            go_wp2_with (first | ((with_reducible refine gate_store (t := 2) (p := 71) rfl ?_); (try (rw [drewN_self wr]; generalize hq_ : World.drewN wr _ = wr; have n0_ := Aside0.mk (Kd.S_at hq_ HO_5.out); have n1_ := Aside0.mk (Kd.R_at hq_ HO_55.out); have n2_ := Aside0.mk (Kd.R_at hq_ HO_210000.out); have n3_ := Aside0.mk (Kd.R_at hq_ HL231.out); have n4_ := Aside0.mk (blk_at hq_ BK204.out); have n5_ := Aside0.mk (blk_at hq_ BK209.out); have n6_ := Aside0.mk (below_at hq_ HB.out); have nf_ := Aside0.mk (show (∀ k_, B_ ≤ k_ → k_ < wr0.heap.size → wr.heap[k_]? = wr0.heap[k_]?) ∧ wr0.heap.size ≤ wr.heap.size from by rw [← hq_]; exact FR.out); clear FR; have FR := nf_; clear nf_; clear hq_ HO_5 HO_55 HO_210000 HL231 BK204 BK209 HB; have HO_5 := n0_; have HO_55 := n1_; have HO_210000 := n2_; have HL231 := n3_; have BK204 := n4_; have BK209 := n5_; have HB := n6_; clear n0_ n1_ n2_ n3_ n4_ n5_ n6_; (try (have hq37 : (x57_3 : Int) < (x5_3.length : Int) := (by have h_ : (x57_3 : Int) < ((x5_3.length : Int) : Int) := of_decide_eq_true (by first | (with_reducible assumption) | assumption); first | exact h_ | (have e_ := (Kd.S_reads' HO_5.out).1; omega) | simpa only [List.length_set, List.length_set] using h_))); (try (obtain ⟨oki37, ce37, hcl37, hM37, hcc37, hok37, hbk37⟩ := Kd.S_borrow HO_5.out [] (x57_3 : Int) (of_decide_eq_true (by first | (with_reducible assumption) | assumption)) hq37)); (try (obtain ⟨ve37_0, rfl, ge37_0⟩ := hM37)); (try (have hv37 := hcc37 0 _ rfl)); (try (rw [Nat.add_zero, show ((Kd.slice 2 (Kd.int .i64))).sz = 1 from rfl, Nat.mul_one] at hv37)); (try (replace hv37 := Option.some.inj (hv37.symm.trans HX222_0.out))); (try (subst hv37)); (try (clear hcc37 hcl37)); (try (replace ge37_0 := (show Kd.R (Kd.int .i64) 2 _ _ _ _ (rd_L1 x5_3 x57_3) from ge37_0))); (try (have HP37 := Kd.R_putg ge37_0 ((rd x55_3 x57_3) : Int) (wrap64 ((rd (rd_L1 x5_3 x57_3) (rd x55_3 x57_3)) - x8_2)))))); refine store_event (t := 2) (p := 71) (v := ?vo_w38) (w1 := (wr.setCell ⟨go36, ((rd x55_3 x57_3) : Int).toNat, none⟩ (.int .i64 (wrap64 ((rd (rd_L1 x5_3 x57_3) (rd x55_3 x57_3)) - x8_2))))) ?hg ?ho ?hn ?hr ?_; (case ho => rfl); (case hg => rfl); (case hn => rfl); (case hr => first | (go_simp; done) | (go_simp; rfl)); intro w38 hw; have hg : wr.grownBy w38 (some go36) := (by rw [hw]; exact HP37.2); have hz_ : Kd.R (Kd.int .i64) 2 w38 w.heap.size oki37 (.slice (some ⟨go36, 0, none⟩) (rd_L1 x5_3 x57_3).length c222_0) y224 := (by rw [hw, Ny224.out]; exact HP37.1); have hp_ : Kd.S (Kd.slice 2 (Kd.int .i64)) 22 w38 w.heap.size (fun k_ => some k_ ≠ (.slice (some ad216) x55_3.length co22 : Value).ownBlock ∧ some k_ ≠ (u210000 : Value).ownBlock ∧ k_ < B_) (.slice (some ad210) x5_3.length co19) y226 := (by rw [Ny226.out]; exact hbk37 hg (fun k_ e_ => by injection e_ with e_; subst e_; exact ge37_0.1 _ rfl) (Kd.M_row hz_)); have hm_ := Kd.R_mono hz_ hok37; clear HP37 hbk37; have n0_ := Aside0.mk (hp_); have n1_ := Aside0.mk (Kd.R_grown1 (by (with_reducible repeat (first | apply Kd.R_alloc | apply Kd.R_drewN | apply Kd.R_drew)); exact HO_55.out) rfl hg ((HL222_0.out.1 _ rfl).1.1)); have n2_ := Aside0.mk (Kd.R_grown1 (by (with_reducible repeat (first | apply Kd.R_alloc | apply Kd.R_drewN | apply Kd.R_drew)); exact HO_210000.out) rfl hg ((HL222_0.out.1 _ rfl).1.2.1)); have n3_ := Aside0.mk (blk_grown (g := gb204) (o := .cells #[.slice none 0 0, .slice none 0 0] 29 (0, 0)) (by (with_reducible repeat (first | refine blk_drewN ?_ _ | refine blk_drew ?_ | refine blk_alloc ?_ _)); exact BK204.out) hg (Kd.R_ne HL222_0.out BK204.out (by decide))); have n4_ := Aside0.mk (blk_grown (g := gb209) (o := .cells #[u210000, u210001] 29 (0, 0)) (by (with_reducible repeat (first | refine blk_drewN ?_ _ | refine blk_drew ?_ | refine blk_alloc ?_ _)); exact BK209.out) hg (Kd.R_ne HL222_0.out BK209.out (by decide))); have n5_ := Aside0.mk ((by rw [hw]; exact below_set (HB.out) GB36.out : Below w.heap.size w w38)); have n6_ := Aside0.mk (hm_); have n7_ := Aside0.mk ((Kd.R_reads' hm_).2.1); have nf_ := Aside0.mk (show (∀ k_, B_ ≤ k_ → k_ < wr0.heap.size → w38.heap[k_]? = wr0.heap[k_]?) ∧ wr0.heap.size ≤ w38.heap.size from ⟨fun k_ a_ b_ => by rw [hw]; exact (Below.heap_setCell _ ⟨go36, _, none⟩ _ k_ (show k_ ≠ go36 from fun e_ => by have h_0 := (show go36 < B_ from (HL222_0.out.1 _ rfl).1.2.2); omega)).trans (FR.out.1 k_ a_ b_), by rw [hw]; exact Go.Proofs.YtlhpejabdmejbaaW.OV.sz_set FR.out.2 _ _⟩); clear FR; have FR := nf_; clear nf_; clear HO_5; clear HO_55; clear HO_210000; clear BK204; clear BK209; clear HB; clear HL222_0; have HO_5 := n0_; have HO_55 := n1_; have HO_210000 := n2_; have BK204 := n3_; have BK209 := n4_; have HB := n5_; have HL231 := n6_; have HC225 := n7_; clear n0_ n1_ n2_ n3_ n4_ n5_ n6_ n7_; clear hg hw hp_ hz_ hm_ hok37))
                                            repeat (go_quiet (first | ((with_reducible refine gate_store (t := 2) (p := 71) rfl ?_); (try (rw [drewN_self wr]; generalize hq_ : World.drewN wr _ = wr; have n0_ := Aside0.mk (Kd.S_at hq_ HO_5.out); have n1_ := Aside0.mk (Kd.R_at hq_ HO_55.out); have n2_ := Aside0.mk (Kd.R_at hq_ HO_210000.out); have n3_ := Aside0.mk (Kd.R_at hq_ HL231.out); have n4_ := Aside0.mk (blk_at hq_ BK204.out); have n5_ := Aside0.mk (blk_at hq_ BK209.out); have n6_ := Aside0.mk (below_at hq_ HB.out); have nf_ := Aside0.mk (show (∀ k_, B_ ≤ k_ → k_ < wr0.heap.size → wr.heap[k_]? = wr0.heap[k_]?) ∧ wr0.heap.size ≤ wr.heap.size from by rw [← hq_]; exact FR.out); clear FR; have FR := nf_; clear nf_; clear hq_ HO_5 HO_55 HO_210000 HL231 BK204 BK209 HB; have HO_5 := n0_; have HO_55 := n1_; have HO_210000 := n2_; have HL231 := n3_; have BK204 := n4_; have BK209 := n5_; have HB := n6_; clear n0_ n1_ n2_ n3_ n4_ n5_ n6_; (try (have hq37 : (x57_3 : Int) < (x5_3.length : Int) := (by have h_ : (x57_3 : Int) < ((x5_3.length : Int) : Int) := of_decide_eq_true (by first | (with_reducible assumption) | assumption); first | exact h_ | (have e_ := (Kd.S_reads' HO_5.out).1; omega) | simpa only [List.length_set, List.length_set] using h_))); (try (obtain ⟨oki37, ce37, hcl37, hM37, hcc37, hok37, hbk37⟩ := Kd.S_borrow HO_5.out [] (x57_3 : Int) (of_decide_eq_true (by first | (with_reducible assumption) | assumption)) hq37)); (try (obtain ⟨ve37_0, rfl, ge37_0⟩ := hM37)); (try (have hv37 := hcc37 0 _ rfl)); (try (rw [Nat.add_zero, show ((Kd.slice 2 (Kd.int .i64))).sz = 1 from rfl, Nat.mul_one] at hv37)); (try (replace hv37 := Option.some.inj (hv37.symm.trans HX222_0.out))); (try (subst hv37)); (try (clear hcc37 hcl37)); (try (replace ge37_0 := (show Kd.R (Kd.int .i64) 2 _ _ _ _ (rd_L1 x5_3 x57_3) from ge37_0))); (try (have HP37 := Kd.R_putg ge37_0 ((rd x55_3 x57_3) : Int) (wrap64 ((rd (rd_L1 x5_3 x57_3) (rd x55_3 x57_3)) - x8_2)))))); refine store_event (t := 2) (p := 71) (v := ?vo_w38) (w1 := (wr.setCell ⟨go36, ((rd x55_3 x57_3) : Int).toNat, none⟩ (.int .i64 (wrap64 ((rd (rd_L1 x5_3 x57_3) (rd x55_3 x57_3)) - x8_2))))) ?hg ?ho ?hn ?hr ?_; (case ho => rfl); (case hg => rfl); (case hn => rfl); (case hr => first | (go_simp; done) | (go_simp; rfl)); intro w38 hw; have hg : wr.grownBy w38 (some go36) := (by rw [hw]; exact HP37.2); have hz_ : Kd.R (Kd.int .i64) 2 w38 w.heap.size oki37 (.slice (some ⟨go36, 0, none⟩) (rd_L1 x5_3 x57_3).length c222_0) y224 := (by rw [hw, Ny224.out]; exact HP37.1); have hp_ : Kd.S (Kd.slice 2 (Kd.int .i64)) 22 w38 w.heap.size (fun k_ => some k_ ≠ (.slice (some ad216) x55_3.length co22 : Value).ownBlock ∧ some k_ ≠ (u210000 : Value).ownBlock ∧ k_ < B_) (.slice (some ad210) x5_3.length co19) y226 := (by rw [Ny226.out]; exact hbk37 hg (fun k_ e_ => by injection e_ with e_; subst e_; exact ge37_0.1 _ rfl) (Kd.M_row hz_)); have hm_ := Kd.R_mono hz_ hok37; clear HP37 hbk37; have n0_ := Aside0.mk (hp_); have n1_ := Aside0.mk (Kd.R_grown1 (by (with_reducible repeat (first | apply Kd.R_alloc | apply Kd.R_drewN | apply Kd.R_drew)); exact HO_55.out) rfl hg ((HL222_0.out.1 _ rfl).1.1)); have n2_ := Aside0.mk (Kd.R_grown1 (by (with_reducible repeat (first | apply Kd.R_alloc | apply Kd.R_drewN | apply Kd.R_drew)); exact HO_210000.out) rfl hg ((HL222_0.out.1 _ rfl).1.2.1)); have n3_ := Aside0.mk (blk_grown (g := gb204) (o := .cells #[.slice none 0 0, .slice none 0 0] 29 (0, 0)) (by (with_reducible repeat (first | refine blk_drewN ?_ _ | refine blk_drew ?_ | refine blk_alloc ?_ _)); exact BK204.out) hg (Kd.R_ne HL222_0.out BK204.out (by decide))); have n4_ := Aside0.mk (blk_grown (g := gb209) (o := .cells #[u210000, u210001] 29 (0, 0)) (by (with_reducible repeat (first | refine blk_drewN ?_ _ | refine blk_drew ?_ | refine blk_alloc ?_ _)); exact BK209.out) hg (Kd.R_ne HL222_0.out BK209.out (by decide))); have n5_ := Aside0.mk ((by rw [hw]; exact below_set (HB.out) GB36.out : Below w.heap.size w w38)); have n6_ := Aside0.mk (hm_); have n7_ := Aside0.mk ((Kd.R_reads' hm_).2.1); have nf_ := Aside0.mk (show (∀ k_, B_ ≤ k_ → k_ < wr0.heap.size → w38.heap[k_]? = wr0.heap[k_]?) ∧ wr0.heap.size ≤ w38.heap.size from ⟨fun k_ a_ b_ => by rw [hw]; exact (Below.heap_setCell _ ⟨go36, _, none⟩ _ k_ (show k_ ≠ go36 from fun e_ => by have h_0 := (show go36 < B_ from (HL222_0.out.1 _ rfl).1.2.2); omega)).trans (FR.out.1 k_ a_ b_), by rw [hw]; exact Go.Proofs.YtlhpejabdmejbaaW.OV.sz_set FR.out.2 _ _⟩); clear FR; have FR := nf_; clear nf_; clear HO_5; clear HO_55; clear HO_210000; clear BK204; clear BK209; clear HB; clear HL222_0; have HO_5 := n0_; have HO_55 := n1_; have HO_210000 := n2_; have BK204 := n3_; have BK209 := n4_; have HB := n5_; have HL231 := n6_; have HC225 := n7_; clear n0_ n1_ n2_ n3_ n4_ n5_ n6_ n7_; clear hg hw hp_ hz_ hm_ hok37)); try go_wp2_with (first | ((with_reducible refine gate_store (t := 2) (p := 71) rfl ?_); (try (rw [drewN_self wr]; generalize hq_ : World.drewN wr _ = wr; have n0_ := Aside0.mk (Kd.S_at hq_ HO_5.out); have n1_ := Aside0.mk (Kd.R_at hq_ HO_55.out); have n2_ := Aside0.mk (Kd.R_at hq_ HO_210000.out); have n3_ := Aside0.mk (Kd.R_at hq_ HL231.out); have n4_ := Aside0.mk (blk_at hq_ BK204.out); have n5_ := Aside0.mk (blk_at hq_ BK209.out); have n6_ := Aside0.mk (below_at hq_ HB.out); have nf_ := Aside0.mk (show (∀ k_, B_ ≤ k_ → k_ < wr0.heap.size → wr.heap[k_]? = wr0.heap[k_]?) ∧ wr0.heap.size ≤ wr.heap.size from by rw [← hq_]; exact FR.out); clear FR; have FR := nf_; clear nf_; clear hq_ HO_5 HO_55 HO_210000 HL231 BK204 BK209 HB; have HO_5 := n0_; have HO_55 := n1_; have HO_210000 := n2_; have HL231 := n3_; have BK204 := n4_; have BK209 := n5_; have HB := n6_; clear n0_ n1_ n2_ n3_ n4_ n5_ n6_; (try (have hq37 : (x57_3 : Int) < (x5_3.length : Int) := (by have h_ : (x57_3 : Int) < ((x5_3.length : Int) : Int) := of_decide_eq_true (by first | (with_reducible assumption) | assumption); first | exact h_ | (have e_ := (Kd.S_reads' HO_5.out).1; omega) | simpa only [List.length_set, List.length_set] using h_))); (try (obtain ⟨oki37, ce37, hcl37, hM37, hcc37, hok37, hbk37⟩ := Kd.S_borrow HO_5.out [] (x57_3 : Int) (of_decide_eq_true (by first | (with_reducible assumption) | assumption)) hq37)); (try (obtain ⟨ve37_0, rfl, ge37_0⟩ := hM37)); (try (have hv37 := hcc37 0 _ rfl)); (try (rw [Nat.add_zero, show ((Kd.slice 2 (Kd.int .i64))).sz = 1 from rfl, Nat.mul_one] at hv37)); (try (replace hv37 := Option.some.inj (hv37.symm.trans HX222_0.out))); (try (subst hv37)); (try (clear hcc37 hcl37)); (try (replace ge37_0 := (show Kd.R (Kd.int .i64) 2 _ _ _ _ (rd_L1 x5_3 x57_3) from ge37_0))); (try (have HP37 := Kd.R_putg ge37_0 ((rd x55_3 x57_3) : Int) (wrap64 ((rd (rd_L1 x5_3 x57_3) (rd x55_3 x57_3)) - x8_2)))))); refine store_event (t := 2) (p := 71) (v := ?vo_w38) (w1 := (wr.setCell ⟨go36, ((rd x55_3 x57_3) : Int).toNat, none⟩ (.int .i64 (wrap64 ((rd (rd_L1 x5_3 x57_3) (rd x55_3 x57_3)) - x8_2))))) ?hg ?ho ?hn ?hr ?_; (case ho => rfl); (case hg => rfl); (case hn => rfl); (case hr => first | (go_simp; done) | (go_simp; rfl)); intro w38 hw; have hg : wr.grownBy w38 (some go36) := (by rw [hw]; exact HP37.2); have hz_ : Kd.R (Kd.int .i64) 2 w38 w.heap.size oki37 (.slice (some ⟨go36, 0, none⟩) (rd_L1 x5_3 x57_3).length c222_0) y224 := (by rw [hw, Ny224.out]; exact HP37.1); have hp_ : Kd.S (Kd.slice 2 (Kd.int .i64)) 22 w38 w.heap.size (fun k_ => some k_ ≠ (.slice (some ad216) x55_3.length co22 : Value).ownBlock ∧ some k_ ≠ (u210000 : Value).ownBlock ∧ k_ < B_) (.slice (some ad210) x5_3.length co19) y226 := (by rw [Ny226.out]; exact hbk37 hg (fun k_ e_ => by injection e_ with e_; subst e_; exact ge37_0.1 _ rfl) (Kd.M_row hz_)); have hm_ := Kd.R_mono hz_ hok37; clear HP37 hbk37; have n0_ := Aside0.mk (hp_); have n1_ := Aside0.mk (Kd.R_grown1 (by (with_reducible repeat (first | apply Kd.R_alloc | apply Kd.R_drewN | apply Kd.R_drew)); exact HO_55.out) rfl hg ((HL222_0.out.1 _ rfl).1.1)); have n2_ := Aside0.mk (Kd.R_grown1 (by (with_reducible repeat (first | apply Kd.R_alloc | apply Kd.R_drewN | apply Kd.R_drew)); exact HO_210000.out) rfl hg ((HL222_0.out.1 _ rfl).1.2.1)); have n3_ := Aside0.mk (blk_grown (g := gb204) (o := .cells #[.slice none 0 0, .slice none 0 0] 29 (0, 0)) (by (with_reducible repeat (first | refine blk_drewN ?_ _ | refine blk_drew ?_ | refine blk_alloc ?_ _)); exact BK204.out) hg (Kd.R_ne HL222_0.out BK204.out (by decide))); have n4_ := Aside0.mk (blk_grown (g := gb209) (o := .cells #[u210000, u210001] 29 (0, 0)) (by (with_reducible repeat (first | refine blk_drewN ?_ _ | refine blk_drew ?_ | refine blk_alloc ?_ _)); exact BK209.out) hg (Kd.R_ne HL222_0.out BK209.out (by decide))); have n5_ := Aside0.mk ((by rw [hw]; exact below_set (HB.out) GB36.out : Below w.heap.size w w38)); have n6_ := Aside0.mk (hm_); have n7_ := Aside0.mk ((Kd.R_reads' hm_).2.1); have nf_ := Aside0.mk (show (∀ k_, B_ ≤ k_ → k_ < wr0.heap.size → w38.heap[k_]? = wr0.heap[k_]?) ∧ wr0.heap.size ≤ w38.heap.size from ⟨fun k_ a_ b_ => by rw [hw]; exact (Below.heap_setCell _ ⟨go36, _, none⟩ _ k_ (show k_ ≠ go36 from fun e_ => by have h_0 := (show go36 < B_ from (HL222_0.out.1 _ rfl).1.2.2); omega)).trans (FR.out.1 k_ a_ b_), by rw [hw]; exact Go.Proofs.YtlhpejabdmejbaaW.OV.sz_set FR.out.2 _ _⟩); clear FR; have FR := nf_; clear nf_; clear HO_5; clear HO_55; clear HO_210000; clear BK204; clear BK209; clear HB; clear HL222_0; have HO_5 := n0_; have HO_55 := n1_; have HO_210000 := n2_; have BK204 := n3_; have BK209 := n4_; have HB := n5_; have HL231 := n6_; have HC225 := n7_; clear n0_ n1_ n2_ n3_ n4_ n5_ n6_ n7_; clear hg hw hp_ hz_ hm_ hok37)))
                                            (try simp only [← hl5_3, ← hl55_3])
                                            go_roundg k3
                                            case measure => have := HK1.out; have := HK2.out; have := HK3.out; omega
                                            case rel => exact ⟨(y226), (x55_3), (wrap64 (x57_3 + 1)), (by first | rfl | (simp; done) | (simp [*]; done)), H', ⟨by have := HK1.out; have := HK2.out; have := HK3.out; omega⟩, ⟨by (try simp only [hl5_3]); (try simp only [hl55_3]); (with_reducible repeat (first | apply Kd.S_alloc | apply Kd.S_drewN | apply Kd.S_drew)); exact HO_5.out⟩, ⟨by (try simp only [hl5_3]); (try simp only [hl55_3]); (with_reducible repeat (first | apply Kd.R_alloc | apply Kd.R_drewN | apply Kd.R_drew)); exact HO_55.out⟩, ⟨by (try simp only [hl5_3]); (try simp only [hl55_3]); (with_reducible repeat (first | apply Kd.R_alloc | apply Kd.R_drewN | apply Kd.R_drew)); exact HO_210000.out⟩, ⟨by (try simp only [hl5_3]); (try simp only [hl55_3]); (with_reducible repeat (first | refine blk_drewN ?_ _ | refine blk_drew ?_ | refine blk_alloc ?_ _)); exact BK204.out⟩, ⟨by (try simp only [hl5_3]); (try simp only [hl55_3]); (with_reducible repeat (first | refine blk_drewN ?_ _ | refine blk_drew ?_ | refine blk_alloc ?_ _)); exact BK209.out⟩, ⟨FR.out⟩, ⟨by repeat (first | (with_reducible first | exact HB.out | apply below_alloc | apply pw_below_drewN | apply below_drew1 | refine below_set ?_ GE204.out | refine below_set ?_ GE209.out) | exact HB.out)⟩⟩
                                          · rw [if_neg c35] at H
                                            exact absurd H (by simp)
                                        · rw [if_neg c34] at H
                                          exact absurd H (by simp)
                                      · rw [if_neg c33] at H
                                        exact absurd H (by simp)
                                    · rw [if_neg c32] at H
                                      exact absurd H (by simp)
                                  · rw [if_neg c31] at H
                                    exact absurd H (by simp)
                                · rw [if_neg c30] at H
                                  have c30b0 : decide (x57_3 < (y212.length : Int)) = false := decide_eq_false c30
                                  clear c30
                                  have c30x := (by rw [← hl55_3]; exact c30b0 : decide (x57_3 < (x55_3.length : Int)) = false)
                                  replace H := Option.bind_eq_some_iff.mp H
                                  obtain ⟨⟨y228, y229⟩, A390, H⟩ := H
                                  replace H : (impl_PermutationMixture.l0 k3 x5_3 y228 y229) = some (r1, r2, r3) := H
                                  have A39 := Aside0.mk A390
                                  clear A390
                                  have H' := Aside0.mk H
                                  clear H
                                  have ND2_ := Aside0.mk (impl_PermutationMixture.nodup A39.out ND_.out)
                                  have MM_ := Aside0.mk (impl_PermutationMixture.mem A39.out)
                                  obtain ⟨Ao57, co57, eo57⟩ := Kd.R_slice HO_210000.out
                                  subst eo57
                                  obtain ⟨Ao58, co58, eo58⟩ := Kd.N_slice HN0.out
                                  subst eo58
                                  obtain ⟨z_, hz_⟩ := Go.Proofs.YtlhpejabdmejbaaW.OV.other (x55_3 :: x210001_1)
                                  have HNN := Aside0.mk (show Kd.N (Go.Proofs.YtlhpejabdmejbaaW.OV.ownV (fun k_ => if B_ ≤ k_ then (if some k_ = (.slice (some ad216) x55_3.length co22 : Value).ownBlock then x55_3 else h_ k_) else z_) 2) 22 wr w.heap.size (fun k_ => (((w.heap.size ≤ k_ ∧ some k_ ≠ (.slice Ao57 x210000_1.length co57 : Value).ownBlock ∧ k_ ≠ gb204) ∧ k_ ≠ gb209) ∧ some k_ ≠ (.slice (some ad216) x55_3.length co22 : Value).ownBlock)) (.slice Ao58 x210001_1.length co58) x210001_1 from Kd.N_mono (Go.Proofs.YtlhpejabdmejbaaW.OV.switch (Kd.N_mono (ok' := (fun k_ => ((((w.heap.size ≤ k_ ∧ some k_ ≠ (.slice Ao57 x210000_1.length co57 : Value).ownBlock ∧ k_ ≠ gb204) ∧ k_ ≠ gb209) ∧ some k_ ≠ (.slice (some ad216) x55_3.length co22 : Value).ownBlock) ∧ B_ ≤ k_))) (Kd.N_step (Kd.N_bound HN0.out) (fun k_ ho_ _ => FR.out.1 k_ ho_.1.2 ho_.2)) (fun k_ hk_ => ⟨⟨hk_.1.1, fun e_ => by have h_0 := LF_.out k_ e_.symm; have h_1 := hk_.2; omega⟩, hk_.1.2⟩)) (fun k_ hk_ => by show (if B_ ≤ k_ then _ else _) = _; rw [if_pos hk_.2, if_neg hk_.1.2])) (fun _ hk => hk.1))
                                  have HLL := Aside0.mk (show Kd.R (Kd.int .i64) 2 wr w.heap.size (fun k_ => ((w.heap.size ≤ k_) ∧ (fun k_ => if B_ ≤ k_ then (if some k_ = (.slice (some ad216) x55_3.length co22 : Value).ownBlock then x55_3 else h_ k_) else z_) k_ = x55_3) ∧ some k_ ≠ (.slice Ao57 x210000_1.length co57 : Value).ownBlock) (.slice (some ad216) x55_3.length co22 : Value) x55_3 from Kd.R_reok rfl HO_55.out (fun k_ e_ => ⟨⟨Kd.R_base HO_55.out k_ e_, by show (if B_ ≤ k_ then _ else _) = _; rw [if_pos (Nat.le_trans HBS0.out (LF_.out k_ e_)), if_pos e_.symm]⟩, HO_55.out.1 k_ e_⟩))
                                  have HTT := Aside0.mk (show Kd.S (Kd.slice 2 (Kd.int .i64)) 22 wr w.heap.size (fun k_ => (some k_ ≠ (.slice (some ad216) x55_3.length co22 : Value).ownBlock ∧ some k_ ≠ (.slice Ao57 x210000_1.length co57 : Value).ownBlock ∧ k_ < B_) ∧ k_ ≠ gb209) (.slice (some ad210) x5_3.length co19) x5_3 from Kd.S_types HO_5.out BK209.out (by decide))
                                  go_wp2_with (first | (go_at_call 89; refine (impl_Mixture_addTo.calls k3 (fun k_ => if B_ ≤ k_ then (if some k_ = (.slice (some ad216) x55_3.length co22 : Value).ownBlock then x55_3 else h_ k_) else z_) gb204 gb209 Ao57 Ao58 (some ad216) co57 co58 co22 x210000_1 x210001_1 x55_3 x8_2 y228 y229 w _ ?s1 GE204.out GE209.out NB204_209.out ?s2 ?s3 ?s4 ?s5 ?s6 A39.out).mono ?_; (case s1 => repeat (first | (with_reducible first | exact HB.out | apply below_alloc | apply pw_below_drewN | apply below_drew1 | refine below_set ?_ GE204.out | refine below_set ?_ GE209.out) | exact HB.out)); (case s2 => (with_reducible repeat (first | refine blk_drewN ?_ _ | refine blk_drew ?_ | refine blk_alloc ?_ _)); exact BK204.out); (case s3 => (with_reducible repeat (first | refine blk_drewN ?_ _ | refine blk_drew ?_ | refine blk_alloc ?_ _)); exact BK209.out); (case s4 => (with_reducible repeat (first | apply Kd.R_alloc | apply Kd.R_drewN | apply Kd.R_drew)); exact Kd.R_mono (Kd.R_bound HO_210000.out) (fun _ hk => hk.2.1)); (case s5 => (with_reducible repeat (first | apply Kd.N_alloc | apply Kd.N_drewN | apply Kd.N_drew)); exact HNN.out); (case s6 => (with_reducible repeat (first | apply Kd.R_alloc | apply Kd.R_drewN | apply Kd.R_drew)); exact HLL.out); rintro e w55 ⟨rfl, hk2_, fr_, hb, hsz_, v0_, v1_, hk9_, ⟨A0_, c0_, hs0_⟩, hW_, hL_, ow_, ol_⟩; have HSZ_ := Aside0.mk (show B_ ≤ wr.heap.size ∧ wr.heap.size ≤ w55.heap.size from ⟨Nat.le_trans HBS0.out FR.out.2, hsz_⟩); have HO_5n := Aside0.mk (Kd.S_mono (Kd.S_kept HTT.out (show Kept wr w55 (fun k_ => k_ = gb209 ∨ some k_ = (.slice Ao57 x210000_1.length co57 : Value).ownBlock ∨ some k_ = (.slice Ao58 x210001_1.length co58 : Value).ownBlock) from ⟨hsz_, fun k_ hk_ hn_ => fr_ k_ hk_ (fun e_ => hn_ (.inl e_)) (fun e_ => hn_ (.inr (.inl e_))) (fun e_ => hn_ (.inr (.inr e_)))⟩) (fun k_ hk_ hs_ => hs_.elim (fun e_ => hk_.2 e_) (fun hs_ => hs_.elim (fun e_ => hk_.1.2.1 e_) (fun e_ => by have h_0 := (HN0.out.1 k_ e_.symm).2; have h_1 := hk_.1.2.2; omega)))) (fun k_ hk_ => (⟨fun e_ => (ow_ k_ e_.symm).elim (fun h_0 => hk_.1.2.1 h_0.symm) (fun h_0 => by have h_1 := hk_.1.2.2; have h_2 := HSZ_.out; omega), hk_.1.2.2⟩ : some k_ ≠ (v0_ : Value).ownBlock ∧ k_ < B_))); have HWn := Aside0.mk (show ∀ k_, (v0_ : Value).ownBlock = some k_ → B_ ≤ k_ from fun k_ e_ => (ow_ k_ e_).elim (HW_.out k_) (fun h_0 => Nat.le_trans HSZ_.out.1 h_0)); have HNn := Aside0.mk (Go.Proofs.YtlhpejabdmejbaaW.OV.tight (Q := fun k_ => B_ ≤ k_) hL_ (fun k_ e_ => (ol_ k_ e_).elim (fun h_0 => (HN0.out.1 k_ h_0).2) (fun h_0 => Nat.le_trans HSZ_.out.1 h_0)) (fun k_ x_ hx_ e_ => Classical.byContradiction fun hn_ => by rw [if_neg hn_] at e_; subst e_; rcases MM_.out _ hx_ with h_0 | h_0; exact hz_ (List.mem_cons_of_mem _ h_0); exact hz_ (h_0 ▸ List.mem_cons_self))); clear HO_5 HO_55 HO_210000 BK204 BK209 HB HNN HLL HTT; have HO_5 := HO_5n; have HO_210000 := Aside0.mk hW_; have BK204 := Aside0.mk hk2_; have BK209 := Aside0.mk hk9_; have HB := Aside0.mk hb; clear HO_5n hW_ hk2_ hk9_ hb hL_ fr_ hs0_))
                                  (try simp only [← hl5_3, ← hl55_3])
                                  go_roundg k3
                                  case measure => have := HK1.out; have := HK2.out; have := HK3.out; omega
                                  case rel => exact ⟨x5_3, y228, v0_, (fun k_ => if B_ ≤ k_ then (if some k_ = (.slice (some ad216) x55_3.length co22 : Value).ownBlock then x55_3 else h_ k_) else z_), y229, v1_, H', ⟨by have := HK1.out; have := HK2.out; have := HK3.out; omega⟩, ⟨by (try simp only [hl5_3]); (try simp only [hl55_3]); (with_reducible repeat (first | apply Kd.S_alloc | apply Kd.S_drewN | apply Kd.S_drew)); exact HO_5.out⟩, ⟨by (with_reducible repeat (first | apply Kd.R_alloc | apply Kd.R_drewN | apply Kd.R_drew)); exact Kd.R_mono HO_210000.out (fun _ _ => trivial)⟩, ⟨by (with_reducible repeat (first | refine blk_drewN ?_ _ | refine blk_drew ?_ | refine blk_alloc ?_ _)); exact BK204.out⟩, ⟨by (with_reducible repeat (first | refine blk_drewN ?_ _ | refine blk_drew ?_ | refine blk_alloc ?_ _)); exact BK209.out⟩, ND2_, ⟨HNn.out⟩, HWn, ⟨Nat.le_trans HSZ_.out.1 HSZ_.out.2⟩, ⟨by repeat (first | (with_reducible first | exact HB.out | apply below_alloc | apply pw_below_drewN | apply below_drew1 | refine below_set ?_ GE204.out | refine below_set ?_ GE209.out) | exact HB.out)⟩⟩
                    · rw [if_neg c18] at H
                      exact absurd H (by simp)
                  · rw [if_neg c17] at H
                    exact absurd H (by simp)
                · rw [if_neg c16] at H
                  exact absurd H (by simp)
              · rw [if_neg c15] at H
                exact absurd H (by simp)
            · rw [if_neg c14] at H
              exact absurd H (by simp)
          · rw [if_neg c13] at H
            have HN := Aside0.mk (show Kd.N (Go.Proofs.YtlhpejabdmejbaaW.OV.ownV h_ 2) 22 wr w.heap.size (fun k_ => ((w.heap.size ≤ k_ ∧ some k_ ≠ (u210000 : Value).ownBlock ∧ k_ ≠ gb204) ∧ k_ ≠ gb209) ∧ B_ ≤ k_) u210001 x210001_1 from by rw [← hwr0]; exact HN0.out)
            have HS_ := Aside0.mk (Kd.S_mono (Go.Proofs.YtlhpejabdmejbaaW.OV.N_S HN.out ND_.out (fun k_ hk_ => hk_.1.1.1)) (fun k_ hk_ => hk_.1.1.2.1))
            clear HN HN0 HBS0 hwr0 HW_
            obtain ⟨Ao88, co88, eo88⟩ := Kd.S_slice HS_.out
            subst eo88
            have c13b0 : decide (0 < t211) = false := decide_eq_false c13
            clear c13
            simp only [Option.some.injEq, Prod.mk.injEq] at H
            obtain ⟨rfl, rfl, rfl⟩ := H
            obtain ⟨Ao46, co46, eo46⟩ := Kd.S_slice HO_5.out
            subst eo46
            have p210 : 0 ≤ (0 : Int) := (by omega)
            have q210 : 0 < (x5_1.length : Int) := of_decide_eq_true (by first | (with_reducible assumption) | assumption)
            obtain ⟨ad210, A210_0, c210_0, e210, hx210_0, hl210_0, hi210_0⟩ := at_L1 (Kd.S_reads' HO_5.out).2.2 0 p210 q210
            cases e210
            obtain ⟨ce210, hce210, hMe210, hcc210⟩ := Kd.S_get HO_5.out [] 0 p210 (by first | exact q210 | exact of_decide_eq_true (by first | (with_reducible assumption) | assumption) | (have e_ := (Kd.S_reads' HO_5.out).1; omega))
            obtain ⟨ve210_0, rfl, ge210_0⟩ := hMe210
            have hv210_0 := hcc210 0 _ rfl
            rw [Nat.add_zero, show ((Kd.slice 2 (Kd.int .i64))).sz = 1 from rfl, Nat.mul_one] at hv210_0
            replace hv210_0 := Option.some.inj (hv210_0.symm.trans hx210_0)
            rw [hv210_0] at ge210_0
            have HL210_0 := Aside0.mk (show Kd.R (Kd.int .i64) 2 _ _ _ _ (rd_L1 x5_1 0) from ge210_0)
            clear hv210_0 ge210_0
            have HX210_0 := Aside0.mk hx210_0
            clear hcc210 hce210
            have qi210 : (0 < x5_1.length) = True := eq_true (by omega)
            (try rw [show ((0 : Int)).toNat = 0 from rfl] at hx210_0)
            (try rw [Addr.add_zero'] at hx210_0)
            have HR210_0 := Aside0.mk hi210_0
            have HC210_0 := Aside0.mk hl210_0
            clear hi210_0 hl210_0
            replace p210 := eq_true p210
            replace q210 := eq_true q210
            go_wp2_with (first | (go_at_call 69; (with_reducible refine (impl_sum.calls k1 _ _ (rd_L1 x5_1 0) t211 _ ?side1 ?side2 A12.out).mono ?_); (case side1 => repeat (first | exact (by repeat (first | (with_reducible exact HR210_0.out) | (with_reducible refine Kd.C_alloc ?_ _) | (with_reducible refine Kd.C_drewN ?_ _) | (with_reducible refine Kd.C_drew ?_) | exact HR210_0.out)) | (with_reducible refine Kd.C_alloc ?_ _) | (with_reducible refine Kd.C_drewN ?_ _) | (with_reducible refine Kd.C_drew ?_))); (case side2 => exact HC210_0.out); rintro e w' ⟨rfl, ⟨nd, rfl⟩⟩; (try first | exact ⟨rfl, _, World.drewN_drewN _ _ _⟩ | exact ⟨rfl, _, Eq.trans (World.drewN_drewN _ _ _) (congrArg (World.drewN _) (Nat.add_assoc _ _ _))⟩); have hnb47 := NB209_204.out; have hnc47 := NB204_209.out; have hcz48_0 : wr.cell? ⟨gb209, 0, none⟩ = some (u210000) := (blk_cell BK209.out 0).trans rfl; have hcz48_1 : wr.cell? ⟨gb209, 1, none⟩ = some (.slice Ao88 x210001_1.length co88) := (blk_cell BK209.out 1).trans rfl; have hfz48_0 := blk_frozen BK209.out 0; have hfz48_1 := blk_frozen BK209.out 1; obtain ⟨Ao49, co49, eo49⟩ := Kd.R_slice HO_210000.out; subst eo49; have hcz50_0 : wr.cell? ⟨gb204, 0, none⟩ = some (.slice none 0 0) := (blk_cell BK204.out 0).trans rfl; have hcz50_1 : wr.cell? ⟨gb204, 1, none⟩ = some (.slice none 0 0) := (blk_cell BK204.out 1).trans rfl; have hfz50_0 := blk_frozen BK204.out 0; have hfz50_1 := blk_frozen BK204.out 1))
            repeat (go_quiet (first | (go_at_call 69; (with_reducible refine (impl_sum.calls k1 _ _ (rd_L1 x5_1 0) t211 _ ?side1 ?side2 A12.out).mono ?_); (case side1 => repeat (first | exact (by repeat (first | (with_reducible exact HR210_0.out) | (with_reducible refine Kd.C_alloc ?_ _) | (with_reducible refine Kd.C_drewN ?_ _) | (with_reducible refine Kd.C_drew ?_) | exact HR210_0.out)) | (with_reducible refine Kd.C_alloc ?_ _) | (with_reducible refine Kd.C_drewN ?_ _) | (with_reducible refine Kd.C_drew ?_))); (case side2 => exact HC210_0.out); rintro e w' ⟨rfl, ⟨nd, rfl⟩⟩; (try first | exact ⟨rfl, _, World.drewN_drewN _ _ _⟩ | exact ⟨rfl, _, Eq.trans (World.drewN_drewN _ _ _) (congrArg (World.drewN _) (Nat.add_assoc _ _ _))⟩); have hnb47 := NB209_204.out; have hnc47 := NB204_209.out; have hcz48_0 : wr.cell? ⟨gb209, 0, none⟩ = some (u210000) := (blk_cell BK209.out 0).trans rfl; have hcz48_1 : wr.cell? ⟨gb209, 1, none⟩ = some (.slice Ao88 x210001_1.length co88) := (blk_cell BK209.out 1).trans rfl; have hfz48_0 := blk_frozen BK209.out 0; have hfz48_1 := blk_frozen BK209.out 1; obtain ⟨Ao49, co49, eo49⟩ := Kd.R_slice HO_210000.out; subst eo49; have hcz50_0 : wr.cell? ⟨gb204, 0, none⟩ = some (.slice none 0 0) := (blk_cell BK204.out 0).trans rfl; have hcz50_1 : wr.cell? ⟨gb204, 1, none⟩ = some (.slice none 0 0) := (blk_cell BK204.out 1).trans rfl; have hfz50_0 := blk_frozen BK204.out 0; have hfz50_1 := blk_frozen BK204.out 1)); try go_wp2_with (first | (go_at_call 69; (with_reducible refine (impl_sum.calls k1 _ _ (rd_L1 x5_1 0) t211 _ ?side1 ?side2 A12.out).mono ?_); (case side1 => repeat (first | exact (by repeat (first | (with_reducible exact HR210_0.out) | (with_reducible refine Kd.C_alloc ?_ _) | (with_reducible refine Kd.C_drewN ?_ _) | (with_reducible refine Kd.C_drew ?_) | exact HR210_0.out)) | (with_reducible refine Kd.C_alloc ?_ _) | (with_reducible refine Kd.C_drewN ?_ _) | (with_reducible refine Kd.C_drew ?_))); (case side2 => exact HC210_0.out); rintro e w' ⟨rfl, ⟨nd, rfl⟩⟩; (try first | exact ⟨rfl, _, World.drewN_drewN _ _ _⟩ | exact ⟨rfl, _, Eq.trans (World.drewN_drewN _ _ _) (congrArg (World.drewN _) (Nat.add_assoc _ _ _))⟩); have hnb47 := NB209_204.out; have hnc47 := NB204_209.out; have hcz48_0 : wr.cell? ⟨gb209, 0, none⟩ = some (u210000) := (blk_cell BK209.out 0).trans rfl; have hcz48_1 : wr.cell? ⟨gb209, 1, none⟩ = some (.slice Ao88 x210001_1.length co88) := (blk_cell BK209.out 1).trans rfl; have hfz48_0 := blk_frozen BK209.out 0; have hfz48_1 := blk_frozen BK209.out 1; obtain ⟨Ao49, co49, eo49⟩ := Kd.R_slice HO_210000.out; subst eo49; have hcz50_0 : wr.cell? ⟨gb204, 0, none⟩ = some (.slice none 0 0) := (blk_cell BK204.out 0).trans rfl; have hcz50_1 : wr.cell? ⟨gb204, 1, none⟩ = some (.slice none 0 0) := (blk_cell BK204.out 1).trans rfl; have hfz50_0 := blk_frozen BK204.out 0; have hfz50_1 := blk_frozen BK204.out 1)))
            refine bodyPost_ret (results_ct rfl _ _ gb204 29 #[.slice Ao49 x210000_1.length co49, .slice Ao88 x210001_1.length co88] (0, 0) _ rfl (by (with_reducible repeat (first | refine blk_drewN ?_ _ | refine blk_drew ?_ | refine blk_alloc ?_ _)); refine blk_put (cs := #[.slice Ao49 x210000_1.length co49, .slice none 0 0]) ?_ 1 _ rfl; (with_reducible repeat (first | refine blk_drewN ?_ _ | refine blk_drew ?_ | refine blk_alloc ?_ _)); refine blk_put (cs := #[.slice none 0 0, .slice none 0 0]) ?_ 0 _ rfl; (with_reducible repeat (first | refine blk_drewN ?_ _ | refine blk_drew ?_ | refine blk_alloc ?_ _)); exact BK204.out) Try.underlying29 rfl (by kernel_rfl)) rfl ?_
            exact ⟨_, _, by first | rfl | (simp [errW_none, errW_some] <;> rfl) | (simp [*, errW_none, errW_some] <;> rfl), by (with_reducible repeat (first | apply Kd.R_alloc | apply Kd.R_drewN | apply Kd.R_drew)); exact Kd.R_mono (Kd.R_far (p := ⟨gb204, 1, none⟩) (Kd.R_far (p := ⟨gb204, 0, none⟩) (Kd.R_types HO_210000.out BK204.out (by decide)) (fun _ hk => hk.2) (.slice Ao49 x210000_1.length co49)) (fun _ hk => hk.2) (.slice Ao88 x210001_1.length co88)) (fun _ hk => trivial), by (with_reducible repeat (first | apply Kd.S_alloc | apply Kd.S_drewN | apply Kd.S_drew)); exact Kd.S_mono (Kd.S_far (p := ⟨gb204, 1, none⟩) (Kd.S_far (p := ⟨gb204, 0, none⟩) (Kd.S_types HS_.out BK204.out (by decide)) (fun _ hk => hk.2) (.slice Ao49 x210000_1.length co49)) (fun _ hk => hk.2) (.slice Ao88 x210001_1.length co88)) (fun _ hk => hk.1), by repeat (first | (with_reducible first | exact HB.out | apply below_alloc | apply pw_below_drewN | apply below_drew1 | refine below_set ?_ GE204.out | refine below_set ?_ GE209.out) | exact HB.out)⟩
        · rw [if_neg c11] at H
          exact absurd H (by simp)
  · replace c3 := Bool.eq_false_iff.mpr c3
    subst c3
    have H1 : (some (([] : List Int), ([] : List (List Int)), false)) = some (r1, r2, r3) := by rw [if_neg (show ¬ (false = true) by decide)] at H; exact H
    clear H
    have H := H1
    clear H1
    simp only [Option.some.injEq, Prod.mk.injEq] at H
    obtain ⟨rfl, rfl, rfl⟩ := H
    go_enter Try.func38, Try.ntmps38
    go_wp2_with (first | ((with_reducible refine gate_dst (N := 2) rfl ?_); refine box_event ?hg (N := 2) ?hd (cs := #[.slice none 0 0, .slice none 0 0]) (t := 29) ?hr ?_; (case hd => rfl); (case hg => rfl); (case hr => first | (go_simp; done) | (go_simp; rfl)); intro gb204 hg w51 hbox hb; have n0_ := Aside0.mk (below_step (by repeat (first | (with_reducible first | exact HB.out | apply below_alloc | apply pw_below_drewN | apply below_drew1) | exact HB.out)) hb); have n1_ := Aside0.mk (hbox); have n2_ := Aside0.mk ((by rw [hg]; exact (below_size (by repeat (first | (with_reducible first | exact HB.out | apply below_alloc | apply pw_below_drewN | apply below_drew1) | exact HB.out))) : w.heap.size ≤ gb204)); have n3_ := Aside0.mk ((by rw [hg]; exact (below_size (by repeat (first | (with_reducible first | exact HB.out | apply below_alloc | apply pw_below_drewN | apply below_drew1) | exact HB.out))) : w.heap.size ≤ gb204)); clear HB; have HB := n0_; have BK204 := n1_; have GW204 := n2_; have GE204 := n3_; clear n0_ n1_ n2_ n3_; clear hb hbox hg) | (go_at_call 51; (with_reducible refine (impl_IsDoubly.calls k _ _ l0 false _ ?side1 ?side2 A2.out).mono ?_); (case side1 => repeat (first | exact (Kd.C_below HR0.out HB.out) | (with_reducible refine Kd.C_alloc ?_ _) | (with_reducible refine Kd.C_drewN ?_ _) | (with_reducible refine Kd.C_drew ?_))); (case side2 => exact HC0.out); rintro e w52 ⟨rfl, hb⟩; have n0_ := Aside0.mk (blk_below (g := gb204) (o := .cells #[.slice none 0 0, .slice none 0 0] 29 (0, 0)) (by (with_reducible repeat (first | refine blk_drewN ?_ _ | refine blk_drew ?_ | refine blk_alloc ?_ _)); exact BK204.out) hb); have n1_ := Aside0.mk (below_step (by repeat (first | (with_reducible first | exact HB.out | apply below_alloc | apply pw_below_drewN | apply below_drew1 | refine below_set ?_ GE204.out) | exact HB.out)) hb); clear BK204; clear HB; have BK204 := n0_; have HB := n1_; clear n0_ n1_; (try clear hb); (try clear hb2); (try clear hk); (try clear hi); have hcz53_0 : w52.cell? ⟨gb204, 0, none⟩ = some (.slice none 0 0) := (blk_cell BK204.out 0).trans rfl; have hcz53_1 : w52.cell? ⟨gb204, 1, none⟩ = some (.slice none 0 0) := (blk_cell BK204.out 1).trans rfl; have hfz53_0 := blk_frozen BK204.out 0; have hfz53_1 := blk_frozen BK204.out 1))
    repeat (go_quiet (first | ((with_reducible refine gate_dst (N := 2) rfl ?_); refine box_event ?hg (N := 2) ?hd (cs := #[.slice none 0 0, .slice none 0 0]) (t := 29) ?hr ?_; (case hd => rfl); (case hg => rfl); (case hr => first | (go_simp; done) | (go_simp; rfl)); intro gb204 hg w51 hbox hb; have n0_ := Aside0.mk (below_step (by repeat (first | (with_reducible first | exact HB.out | apply below_alloc | apply pw_below_drewN | apply below_drew1) | exact HB.out)) hb); have n1_ := Aside0.mk (hbox); have n2_ := Aside0.mk ((by rw [hg]; exact (below_size (by repeat (first | (with_reducible first | exact HB.out | apply below_alloc | apply pw_below_drewN | apply below_drew1) | exact HB.out))) : w.heap.size ≤ gb204)); have n3_ := Aside0.mk ((by rw [hg]; exact (below_size (by repeat (first | (with_reducible first | exact HB.out | apply below_alloc | apply pw_below_drewN | apply below_drew1) | exact HB.out))) : w.heap.size ≤ gb204)); clear HB; have HB := n0_; have BK204 := n1_; have GW204 := n2_; have GE204 := n3_; clear n0_ n1_ n2_ n3_; clear hb hbox hg) | (go_at_call 51; (with_reducible refine (impl_IsDoubly.calls k _ _ l0 false _ ?side1 ?side2 A2.out).mono ?_); (case side1 => repeat (first | exact (Kd.C_below HR0.out HB.out) | (with_reducible refine Kd.C_alloc ?_ _) | (with_reducible refine Kd.C_drewN ?_ _) | (with_reducible refine Kd.C_drew ?_))); (case side2 => exact HC0.out); rintro e w52 ⟨rfl, hb⟩; have n0_ := Aside0.mk (blk_below (g := gb204) (o := .cells #[.slice none 0 0, .slice none 0 0] 29 (0, 0)) (by (with_reducible repeat (first | refine blk_drewN ?_ _ | refine blk_drew ?_ | refine blk_alloc ?_ _)); exact BK204.out) hb); have n1_ := Aside0.mk (below_step (by repeat (first | (with_reducible first | exact HB.out | apply below_alloc | apply pw_below_drewN | apply below_drew1 | refine below_set ?_ GE204.out) | exact HB.out)) hb); clear BK204; clear HB; have BK204 := n0_; have HB := n1_; clear n0_ n1_; (try clear hb); (try clear hb2); (try clear hk); (try clear hi); have hcz53_0 : w52.cell? ⟨gb204, 0, none⟩ = some (.slice none 0 0) := (blk_cell BK204.out 0).trans rfl; have hcz53_1 : w52.cell? ⟨gb204, 1, none⟩ = some (.slice none 0 0) := (blk_cell BK204.out 1).trans rfl; have hfz53_0 := blk_frozen BK204.out 0; have hfz53_1 := blk_frozen BK204.out 1)); try go_wp2_with (first | ((with_reducible refine gate_dst (N := 2) rfl ?_); refine box_event ?hg (N := 2) ?hd (cs := #[.slice none 0 0, .slice none 0 0]) (t := 29) ?hr ?_; (case hd => rfl); (case hg => rfl); (case hr => first | (go_simp; done) | (go_simp; rfl)); intro gb204 hg w51 hbox hb; have n0_ := Aside0.mk (below_step (by repeat (first | (with_reducible first | exact HB.out | apply below_alloc | apply pw_below_drewN | apply below_drew1) | exact HB.out)) hb); have n1_ := Aside0.mk (hbox); have n2_ := Aside0.mk ((by rw [hg]; exact (below_size (by repeat (first | (with_reducible first | exact HB.out | apply below_alloc | apply pw_below_drewN | apply below_drew1) | exact HB.out))) : w.heap.size ≤ gb204)); have n3_ := Aside0.mk ((by rw [hg]; exact (below_size (by repeat (first | (with_reducible first | exact HB.out | apply below_alloc | apply pw_below_drewN | apply below_drew1) | exact HB.out))) : w.heap.size ≤ gb204)); clear HB; have HB := n0_; have BK204 := n1_; have GW204 := n2_; have GE204 := n3_; clear n0_ n1_ n2_ n3_; clear hb hbox hg) | (go_at_call 51; (with_reducible refine (impl_IsDoubly.calls k _ _ l0 false _ ?side1 ?side2 A2.out).mono ?_); (case side1 => repeat (first | exact (Kd.C_below HR0.out HB.out) | (with_reducible refine Kd.C_alloc ?_ _) | (with_reducible refine Kd.C_drewN ?_ _) | (with_reducible refine Kd.C_drew ?_))); (case side2 => exact HC0.out); rintro e w52 ⟨rfl, hb⟩; have n0_ := Aside0.mk (blk_below (g := gb204) (o := .cells #[.slice none 0 0, .slice none 0 0] 29 (0, 0)) (by (with_reducible repeat (first | refine blk_drewN ?_ _ | refine blk_drew ?_ | refine blk_alloc ?_ _)); exact BK204.out) hb); have n1_ := Aside0.mk (below_step (by repeat (first | (with_reducible first | exact HB.out | apply below_alloc | apply pw_below_drewN | apply below_drew1 | refine below_set ?_ GE204.out) | exact HB.out)) hb); clear BK204; clear HB; have BK204 := n0_; have HB := n1_; clear n0_ n1_; (try clear hb); (try clear hb2); (try clear hk); (try clear hi); have hcz53_0 : w52.cell? ⟨gb204, 0, none⟩ = some (.slice none 0 0) := (blk_cell BK204.out 0).trans rfl; have hcz53_1 : w52.cell? ⟨gb204, 1, none⟩ = some (.slice none 0 0) := (blk_cell BK204.out 1).trans rfl; have hfz53_0 := blk_frozen BK204.out 0; have hfz53_1 := blk_frozen BK204.out 1)))
    refine bodyPost_ret (results_ct rfl _ _ gb204 29 #[.slice none 0 0, .slice none 0 0] (0, 0) _ rfl (by (with_reducible repeat (first | refine blk_drewN ?_ _ | refine blk_drew ?_ | refine blk_alloc ?_ _)); refine blk_put (cs := #[.slice none 0 0, .slice none 0 0]) ?_ 1 _ rfl; (with_reducible repeat (first | refine blk_drewN ?_ _ | refine blk_drew ?_ | refine blk_alloc ?_ _)); refine blk_put (cs := #[.slice none 0 0, .slice none 0 0]) ?_ 0 _ rfl; (with_reducible repeat (first | refine blk_drewN ?_ _ | refine blk_drew ?_ | refine blk_alloc ?_ _)); exact BK204.out) Try.underlying29 rfl (by kernel_rfl)) rfl ?_
    exact ⟨_, _, by first | rfl | (simp [errW_none, errW_some] <;> rfl) | (simp [*, errW_none, errW_some] <;> rfl), by first | exact Kd.R_nil _ _ _ _ _ | exact Kd.N_nil _ _ _ _ _ | exact Kd.V_nil _ _ _ _ _ | exact Kd.Q_nil _ _ _ _ _ | exact Kd.S_nil _ _ _ _ _, by first | exact Kd.S_nil _ _ _ _ _ | exact Kd.N_nil _ _ _ _ _ | exact Kd.V_nil _ _ _ _ _ | exact Kd.Q_nil _ _ _ _ _ | exact Kd.R_nil _ _ _ _ _, by repeat (first | (with_reducible first | exact HB.out | apply below_alloc | apply pw_below_drewN | apply below_drew1 | refine below_set ?_ GE204.out) | exact HB.out)⟩


end Go.Proofs.Ytlhpejabdmejbaa.PFnExactPermutationMixture
