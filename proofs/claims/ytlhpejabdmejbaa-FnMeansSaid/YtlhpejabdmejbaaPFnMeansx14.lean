/- Written by this session's program (wip/tool/xprint.py) over the kit's printer. -/
import Derived.Test.YtlhpejabdmejbaaPFnMeansx0
import Derived.Test.YtlhpejabdmejbaaPFnMeansx9
import Derived.Test.YtlhpejabdmejbaaPFnMeansx13
namespace Go.Proofs.Ytlhpejabdmejbaa.PFnMeans
open Go.RowKit Go.Proofs.YtlhpejabdmejbaaW.PrintWords Go.Proofs.YtlhpejabdmejbaaW.PrintLast Go.Proofs.YtlhpejabdmejbaaW.PrintMore
attribute [local go_sem] max2_int min2_int max_two min_two max_three min_three max_four min_four   -- for this text's walks alone
set_option linter.unusedVariables false
set_option linter.unusedSimpArgs false

/-! ### spec_R8Mixture: function 54 -/
def spec_R8Mixture.f (k : Nat) (l0 : List Int) : Option (List Int × (List (List Int))) := (spec_l00From.f l0).bind fun bt406 => ((spec_l06DrawOk.f k bt406.1 bt406.2.1 bt406.2.2).bind fun bt410 => (some (bt410.1, bt410.2.1)))
theorem spec_R8Mixture.mono : ∀ a0 k, LeO (spec_R8Mixture.f k a0) (spec_R8Mixture.f (k + 1) a0) := by
  intro a0 k
  unfold spec_R8Mixture.f
  repeat' first | (with_reducible first | apply spec_l06DrawOk.mono | exact LeO.refl _ | exact LeO.none _ | refine LeO.ite ?_ ?_ | refine LeO.bind ?_ (fun _ => ?_)) | apply spec_l06DrawOk.mono | exact LeO.none _ | refine LeO.ite ?_ ?_ | refine LeO.bind ?_ (fun _ => ?_)
set_option maxHeartbeats 8000000 in
set_option maxRecDepth 100000 in
theorem spec_R8Mixture.calls (k : Nat) (A0 : Option Addr) (c0 : Nat) (l0 : List Int) (r1 : List Int) (r2 : List (List Int)) (w : World) (hr0 : Kd.C (Kd.int .u8) w A0 l0.length l0) (hc0 : l0.length ≤ c0) (h : spec_R8Mixture.f k l0 = some (r1, r2)) :
    Calls Try.prog 54 #[.slice A0 l0.length c0] w fun e w' => ∃ v0_ v1_ : Value, e = .returned (.agg #[v0_, v1_]) ∧ Kd.R (Kd.int .i64) 2 w' w.heap.size (fun k_ => (w.heap.size ≤ k_)) v0_ r1 ∧ Kd.N (Kd.slice 2 (Kd.int .i64)) 22 w' w.heap.size (fun k_ => (w.heap.size ≤ k_) ∧ some k_ ≠ (v0_ : Value).ownBlock) v1_ r2 ∧ Below w.heap.size w w' := by
 have hu29 := Try.underlying29; have HR0 := mA hr0; have HC0 := mA hc0; clear hr0 hc0; have HB := mA (Below.refl w.heap.size w); have H : ((spec_l00From.f l0).bind fun bt406 => ((spec_l06DrawOk.f k bt406.1 bt406.2.1 bt406.2.2).bind fun bt410 => (some (bt410.1, bt410.2.1)))) = some (r1, r2) := h; clear h; obtain ⟨⟨t406, t407, t408⟩, A2, H⟩ := sqB H; dsimp only at H; obtain ⟨⟨t410, t413, t416, t417⟩, A3, H⟩ := sqB H; dsimp only at H; simp only [Option.some.injEq, Prod.mk.injEq] at H; obtain ⟨rfl, rfl⟩ := H; go_enter Try.func54, Try.ntmps54
 go_wp2_with (first | (refine sqX 2 #[.slice none 0 0, .slice none 0 0] 29 ?_; intro gb405 hg w4 hbox hb; have BK405 := mA (hbox); have GW405 := mA ((zq18 : w.heap.size ≤ gb405)); have GE405 := mA ((zq18 : w.heap.size ≤ gb405)); replace HB := mA (below_step zq6 hb); clear hb hbox hg) | (refine sqG 102 (some 5) Try.func102 #[.slice A0 l0.length c0] (h := ?_); (with_reducible refine (spec_l00From.calls _ _ l0 t406 t407 t408 w _ ?s1 ?s2 ?s3 A2.out).mono ?_); (case s1 => exact zq1); (case s2 => exact HR0.out); (case s3 => exact HC0.out); rintro e w5 ⟨g409, rfl, hi, hb, hb2⟩; refine ⟨_, rfl, ?_⟩; replace HB := mA (hb); have HI409 := mA (hi); have NB409_405 := mA (IsS120.ne_blk hi (blk_below (g := gb405) (o := .cells #[.slice none 0 0, .slice none 0 0] 29 (0, 0)) (zq0 BK405) hb2) (by decide)); have NB405_409 := mA (Ne.symm (IsS120.ne_blk hi (blk_below (g := gb405) (o := .cells #[.slice none 0 0, .slice none 0 0] 29 (0, 0)) (zq0 BK405) hb2) (by decide))); replace BK405 := mA (blk_below (g := gb405) (o := .cells #[.slice none 0 0, .slice none 0 0] 29 (0, 0)) (zq0 BK405) hb2); (try clear hb hb2 hi)) | (refine sqG 114 (some 7) Try.func114 #[.pointer (some ⟨g409, 0, none⟩)] (h := ?_); (with_reducible refine (spec_l06DrawOk.calls k g409 t406 t407 t408 t410 t413 t416 t417 w _ ?s1 ?s2 A3.out).mono ?_); (case s1 => exact zq33 HI409 NB409_405); (case s2 => exact zq9 HI409); rintro e w6 ⟨v411, v414, rfl, ho0, ho1, hi, hb, hk⟩; refine ⟨_, rfl, ?_⟩; have HO412 := mA (Kd.R_lower (Kd.R_newM (M := fun k_ => (w.heap.size ≤ k_)) (Kd.R_mono (ok' := fun k_ => True) ho0 (fun _ hk_ => trivial)) (below_size (zq9 HI409)) (fun k_ h_ => h_)) (below_size (zq9 HI409))); have HO415 := mA (Kd.N_lower (Kd.N_mono (ok' := fun k_ => (w.heap.size ≤ k_) ∧ some k_ ≠ (v411 : Value).ownBlock ∧ k_ ≠ gb405 ∧ k_ ≠ g409) ho1 (fun k_ hk_ => ⟨(Nat.le_trans (below_size (zq9 HI409)) hk_.1), hk_.2, (Kd.freshB (g := gb405) (o := .cells #[.slice none 0 0, .slice none 0 0] 29 (0, 0)) (zq0 BK405) k_ hk_.1), (IsS120.fresh (zq33 HI409 NB409_405) k_ hk_.1)⟩)) (below_size (zq9 HI409))); replace BK405 := mA (KeepBut.blk hk (g' := gb405) (o := .cells #[.slice none 0 0, .slice none 0 0] 29 (0, 0)) (zq0 BK405) NB405_409.out (by simp)); replace HB := mA (hb); replace HI409 := mA (hi); (try clear hb hk hi ho0 ho1); obtain ⟨Ao7, co7, eo7⟩ := Kd.R_slice HO412.out; subst eo7; have hnb8 := NB405_409.out; have hnc8 := NB409_405.out; have hcz9_0 := sqZ0 BK405; have hcz9_1 := sqZ1 BK405; have hfz9_0 := blk_frozen BK405.out 0; have hfz9_1 := blk_frozen BK405.out 1; obtain ⟨Ao10, co10, eo10⟩ := Kd.N_slice HO415.out; subst eo10))
 refine bodyPost_ret (results_cell_row rfl _ _ gb405 29 #[.slice Ao7 t410.length co7, .slice Ao10 t413.length co10] (0, 0) _ rfl (by (with_reducible repeat (first | refine blk_drewN ?_ _ | refine blk_drew ?_ | refine blk_alloc ?_ _)); refine blk_put (cs := #[.slice Ao7 t410.length co7, .slice none 0 0]) ?_ 1 _ rfl; (with_reducible repeat (first | refine blk_drewN ?_ _ | refine blk_drew ?_ | refine blk_alloc ?_ _)); refine blk_put (cs := #[.slice none 0 0, .slice none 0 0]) ?_ 0 _ rfl; (with_reducible repeat (first | refine blk_drewN ?_ _ | refine blk_drew ?_ | refine blk_alloc ?_ _)); exact BK405.out) Try.underlying29 rfl (by kernel_rfl)) rfl ?_; exact ⟨_, _, zq7, by (with_reducible repeat (first | apply Kd.R_alloc | apply Kd.R_drewN | apply Kd.R_drew)); exact Kd.R_mono (Kd.R_far (p := ⟨gb405, 1, none⟩) (Kd.R_far (p := ⟨gb405, 0, none⟩) (Kd.R_types HO412.out BK405.out (by decide)) (fun _ hk => hk.2) (.slice Ao7 t410.length co7)) (fun _ hk => hk.2) (.slice Ao10 t413.length co10)) (fun _ hk => hk.1.1), by (with_reducible repeat (first | apply Kd.N_alloc | apply Kd.N_drewN | apply Kd.N_drew)); exact Kd.N_mono (Kd.N_far (p := ⟨gb405, 1, none⟩) (Kd.N_far (p := ⟨gb405, 0, none⟩) (Kd.N_mono HO415.out (fun k_ hk => (⟨hk, hk.2.2.1⟩ : _ ∧ k_ ≠ gb405))) (fun _ hk => hk.2) (.slice Ao7 t410.length co7)) (fun _ hk => hk.2) (.slice Ao10 t413.length co10)) (fun _ hk => ⟨hk.1.1, hk.1.2.1⟩), zq9 HI409⟩

/-! ### laws_r8Sum: function 55 -/
def laws_r8Sum.l0 : Nat → List Int → Int → Int → Option (Int)
  | 0, _, _, _ => none
  | k + 1, x0, x3, x4 => if x4 < (x0.length : Int) then (if 0 ≤ x4 then (laws_r8Sum.l0 k x0 (wrap64 (x3 + (rd x0 x4))) (wrap64 (x4 + 1))) else (none)) else (some x3)
def laws_r8Sum.f (k : Nat) (l0 : List Int) : Option (Int) := laws_r8Sum.l0 k l0 0 0
theorem laws_r8Sum.mono_l : ∀ k, (∀ y0 y1 y2, LeO (laws_r8Sum.l0 k y0 y1 y2) (laws_r8Sum.l0 (k + 1) y0 y1 y2))
  | 0 => fun _ _ _ r h => by simp [laws_r8Sum.l0] at h
  | k + 1 => by
   have ih0 := laws_r8Sum.mono_l k
   intros
   unfold laws_r8Sum.l0
   all_goals repeat' first | (with_reducible first | apply ih0 | exact LeO.refl _ | exact LeO.none _ | refine LeO.ite ?_ ?_ | refine LeO.bind ?_ (fun _ => ?_)) | apply ih0 | exact LeO.none _ | refine LeO.ite ?_ ?_ | refine LeO.bind ?_ (fun _ => ?_)
theorem laws_r8Sum.mono : ∀ a0 k, LeO (laws_r8Sum.f k a0) (laws_r8Sum.f (k + 1) a0) := by
  intro a0 k
  have ih0 := laws_r8Sum.mono_l k
  unfold laws_r8Sum.f
  repeat' first | (with_reducible first | apply ih0 | exact LeO.refl _ | exact LeO.none _ | refine LeO.ite ?_ ?_ | refine LeO.bind ?_ (fun _ => ?_)) | apply ih0 | exact LeO.none _ | refine LeO.ite ?_ ?_ | refine LeO.bind ?_ (fun _ => ?_)
set_option maxHeartbeats 8000000 in
set_option maxRecDepth 100000 in
theorem laws_r8Sum.calls (k : Nat) (A0 : Option Addr) (c0 : Nat) (l0 : List Int) (r : Int) (w : World) (hr0 : Kd.C (Kd.int .i64) w A0 l0.length l0) (hc0 : l0.length ≤ c0) (h : laws_r8Sum.f k l0 = some r) :
    Calls Try.prog 55 #[.slice A0 l0.length c0] w fun e w' => e = .returned (.int .i64 r) ∧ Drawn0 w w' := by
 have HR0 := mA hr0; have HC0 := mA hc0; clear hr0 hc0; have H : (laws_r8Sum.l0 k l0 0 0) = some r := h; clear h; have H' := mA H; clear H; go_enter Try.func55, Try.ntmps55; go_wp2; go_loopg [3, 4] k (fun kq v3 v4 w' => ∃ (x3_1 : Int) (x4_1 : Int), v3 = .int .i64 x3_1 ∧ v4 = .int .i64 x4_1 ∧ Aside0 (laws_r8Sum.l0 kq l0 x3_1 x4_1 = some r) ∧ Aside0 (kq ≤ k) ∧ Drawn0 w w')
 case atStart => exact ⟨(0), (0), zq3, zq3, H', ⟨Nat.le_refl _⟩, zq10⟩
 case round =>
  clear H'; obtain ⟨x3_1, x4_1, rfl, rfl, HA, HK1, ⟨m1, rfl⟩⟩ := hrel
  cases gk with
  | zero => exact absurd HA.out (by simp [laws_r8Sum.l0])
  | succ k1 =>
   have H := HA.out; clear HA; simp only [laws_r8Sum.l0] at H; refine sqC (x4_1 < (l0.length : Int)) (fun c2 => ?_) (fun c2 => ?_)
   ·rw [if_neg c2] at H; replace c2 := decide_eq_false c2; obtain rfl := Option.some.inj H; go_wp2; go_ret; exact ⟨zq3, zq10⟩
   rw [if_pos c2] at H; replace c2 := decide_eq_true c2; obtain ⟨c3, H⟩ := sqI H; replace c3 := decide_eq_true c3; have H' := mA H; clear H; have p418 : 0 ≤ (x4_1 : Int) := sqd; have q418 : x4_1 < (l0.length : Int) := sqd; obtain ⟨ad418, e418, hx418_0⟩ := Kd.at_int HR0.out x4_1 p418 q418
   cases e418
   replace p418 := eq_true p418; replace q418 := eq_true q418; go_wp2; go_roundg k1
   case measure => have := HK1.out; omega
   case rel => exact ⟨(wrap64 (x3_1 + (rd l0 x4_1))), (wrap64 (x4_1 + 1)), zq3, zq3, H', ⟨zq22 HK1⟩, zq10⟩

end Go.Proofs.Ytlhpejabdmejbaa.PFnMeans
