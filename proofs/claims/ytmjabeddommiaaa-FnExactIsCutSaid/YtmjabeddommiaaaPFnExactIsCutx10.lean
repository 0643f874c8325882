/- Written by this session's program (wip/tool/xprint.py) over the kit's printer. -/
import Derived.Test.YtmjabeddommiaaaPFnExactIsCutx0
import Derived.Test.YtmjabeddommiaaaPFnExactIsCutx9
namespace Go.Proofs.Ytmjabeddommiaaa.PFnExactIsCut
open Go.RowKit Go.Proofs.YtmjabeddommiaaaW.PrintWords Go.Proofs.YtmjabeddommiaaaW.PrintLast Go.Proofs.YtmjabeddommiaaaW.PrintMore
attribute [local go_sem] max2_int min2_int max_two min_two max_three min_three max_four min_four   -- for this text's walks alone
set_option linter.unusedVariables false
set_option linter.unusedSimpArgs false

/-! ### impl_Table_spansOf: function 94 -/
def impl_Table_spansOf.l0 : Nat → List (S64) → List Int → Int → Int → Int → List (List Int) → Option ((List (S64)))
  | 0, _, _, _, _, _, _ => none
  | k + 1, x5, x9, x10, x11, x264000, x264001 => if x11 < x10 then (if 0 ≤ x11 then (if x11 < (x9.length : Int) then ((impl_Table_around.f x264000 x264001 (rd x9 x11)).bind fun bt268 => (if x5.length < 8796093022208 then (impl_Table_spansOf.l0 k (x5 ++ [(⟨bt268.1, bt268.2⟩ : S64)]) x9 x10 (wrap64 (x11 + 1)) x264000 x264001) else (none))) else (none)) else (none)) else (some x5)
def impl_Table_spansOf.f (k : Nat) (a0_0 : Int) (l0_1 : List (List Int)) (l1 : List Int) : Option ((List (S64))) := impl_Table_spansOf.l0 k (([] : List (S64))) l1 (l1.length : Int) 0 a0_0 l0_1
theorem impl_Table_spansOf.mono_l : ∀ k, (∀ y0 y1 y2 y3 y4 y5, LeO (impl_Table_spansOf.l0 k y0 y1 y2 y3 y4 y5) (impl_Table_spansOf.l0 (k + 1) y0 y1 y2 y3 y4 y5))
  | 0 => fun _ _ _ _ _ _ r h => by simp [impl_Table_spansOf.l0] at h
  | k + 1 => by
   have ih0 := impl_Table_spansOf.mono_l k
   intros
   unfold impl_Table_spansOf.l0
   all_goals repeat' first | (with_reducible first | apply ih0 | exact LeO.refl _ | exact LeO.none _ | refine LeO.ite ?_ ?_ | refine LeO.bind ?_ (fun _ => ?_)) | apply ih0 | exact LeO.none _ | refine LeO.ite ?_ ?_ | refine LeO.bind ?_ (fun _ => ?_)
theorem impl_Table_spansOf.mono : ∀ a0 a1 a2 k, LeO (impl_Table_spansOf.f k a0 a1 a2) (impl_Table_spansOf.f (k + 1) a0 a1 a2) := by
  intro a0 a1 a2 k
  have ih0 := impl_Table_spansOf.mono_l k
  unfold impl_Table_spansOf.f
  repeat' first | (with_reducible first | apply ih0 | exact LeO.refl _ | exact LeO.none _ | refine LeO.ite ?_ ?_ | refine LeO.bind ?_ (fun _ => ?_)) | apply ih0 | exact LeO.none _ | refine LeO.ite ?_ ?_ | refine LeO.bind ?_ (fun _ => ?_)
set_option maxHeartbeats 8000000 in
set_option maxRecDepth 100000 in
theorem impl_Table_spansOf.calls (k : Nat) (a0_0 : Int) (A0_1 : Option Addr) (c0_1 : Nat) (l0_1 : List (List Int)) (A1 : Option Addr) (c1 : Nat) (l1 : List Int) (r : List (S64)) (w : World) (hr0_1 : Kd.C (Kd.slice 2 (Kd.int .i64)) w A0_1 l0_1.length l0_1) (hc0_1 : l0_1.length ≤ c0_1) (hr1 : Kd.C (Kd.int .i64) w A1 l1.length l1) (hc1 : l1.length ≤ c1) (h : impl_Table_spansOf.f k a0_0 l0_1 l1 = some r) :
    Calls Try.prog 94 #[.agg #[.int .i64 a0_0, .slice A0_1 l0_1.length c0_1], .slice A1 l1.length c1] w fun e w' => ∃ v0_ : Value, e = .returned (v0_) ∧ Kd.R k64 64 w' w.heap.size (fun _ => True) v0_ r ∧ Below w.heap.size w w' := by
 have hu29 := Try.underlying29; have HR0_1 := mA hr0_1; have HC0_1 := mA hc0_1; clear hr0_1 hc0_1; have HR1 := mA hr1; have HC1 := mA hc1; clear hr1 hc1; have HB := mA (Below.refl w.heap.size w); have H : (impl_Table_spansOf.l0 k (([] : List (S64))) l1 (l1.length : Int) 0 a0_0 l0_1) = some r := h; clear h; obtain ⟨y264, hy264⟩ : ∃ y_ : List (S64), y_ = (([] : List (S64))) := ⟨_, rfl⟩
 replace H : (impl_Table_spansOf.l0 k y264 l1 (l1.length : Int) 0 a0_0 l0_1) = some r := by first | (rw [hy264]; with_reducible exact H) | (have H2_ := (Option.bind_some _ _).symm.trans H; rw [hy264]; with_reducible exact H2_) | (have H2_ := (Option.bind_some _ _).symm.trans H; with_reducible exact H2_) | with_reducible exact H | (rw [hy264]; exact H) | exact H
 have Ny264 := mA hy264; clear hy264; have H' := mA H; clear H; go_enter Try.func94, Try.ntmps94; go_wp2_with (first | (refine sqX 2 #[.int .i64 a0_0, .slice A0_1 l0_1.length c0_1] 29 ?_; intro gb263 hg w3 hbox hb; have BK263 := mA (hbox); have GW263 := mA ((zq6 : w.heap.size ≤ gb263)); have GE263 := mA ((zq6 : w.heap.size ≤ gb263)); replace HB := mA (below_step zq4 hb); clear hb hbox hg) | ((with_reducible refine gate_dst (N := 8) rfl ?_); refine Kd.R_lit k64 _ 64 ?hg (N := 8) ?hd (xs := ([] : List (S64))) (inner := []) (ok := fun _ => True) (okp := fun _ => True) ?hr ?hp (fun _ hk => hk) trivial (Below.refl _ _) (Nat.le_refl _) (by simp) ?_; (case hd => rfl); (case hg => rfl); (case hr => exact zq12); (case hp => exact (Reps.none _ _)); intro v265 w4 ho5 hb hg_ hnew_; clear hg_ hnew_; (first | rw [← Ny264.out] at ho5 | (simp only [Int.reduceToNat] at ho5; rw [← Ny264.out] at ho5)); have HO266 := mA (Kd.R_lower ho5 (below_size zq1)); replace BK263 := mA (blk_below (g := gb263) (o := .cells #[.int .i64 a0_0, .slice A0_1 l0_1.length c0_1] 29 (0, 0)) (zq2 BK263) hb); replace HB := mA (below_step zq1 hb); clear hb ho5)); go_loopg [5, 11] k (fun kq v5 v11 w' => ∃ (x5_1 : List (S64)) (x11_1 : Int), v11 = .int .i64 x11_1 ∧ Aside0 (impl_Table_spansOf.l0 kq x5_1 l1 (l1.length : Int) x11_1 a0_0 l0_1 = some r) ∧ Aside0 (kq ≤ k) ∧ Aside0 (Kd.R k64 64 w' w.heap.size (fun _ => True) v5 x5_1) ∧ Aside0 (w'.heap[gb263]? = some (.cells #[.int .i64 a0_0, (.slice A0_1 l0_1.length c0_1)] 29 (0, 0))) ∧ Aside0 (Below w.heap.size w w'))
 case atStart => exact ⟨(y264), (0), zq5, H', ⟨Nat.le_refl _⟩, ⟨zq0 HO266⟩, ⟨zq2 BK263⟩, ⟨zq1⟩⟩
 case round =>
  clear H'; (try clear c1); (try clear p2); obtain ⟨x5_1, x11_1, rfl, HA, HK1, HO_5, BK263, HB⟩ := hrel
  cases gk with
  | zero => exact absurd HA.out (by simp [impl_Table_spansOf.l0])
  | succ k1 =>
   have H := HA.out; clear HA; simp only [impl_Table_spansOf.l0] at H; refine sqC (x11_1 < (l1.length : Int)) (fun c6 => ?_) (fun c6 => ?_)
   ·rw [if_neg c6] at H; replace c6 := decide_eq_false c6; obtain rfl := Option.some.inj H; go_wp2; go_ret; exact ⟨_, zq8, zq0 HO_5, zq1⟩
   rw [if_pos c6] at H; replace c6 := decide_eq_true c6; obtain ⟨c7, H⟩ := sqI H; replace c7 := decide_eq_true c7; obtain ⟨c8, H⟩ := sqI H; replace c8 := decide_eq_true c8; obtain ⟨⟨t268, t269⟩, A9, H⟩ := sqB H; dsimp only at H; obtain ⟨c10, H⟩ := sqI H; have LMc10 := mA c10; clear c10; obtain ⟨y270, hy270⟩ : ∃ y_ : List (S64), y_ = (x5_1 ++ [(⟨t268, t269⟩ : S64)]) := ⟨_, rfl⟩
   replace H : (impl_Table_spansOf.l0 k1 y270 l1 (l1.length : Int) (wrap64 (x11_1 + 1)) a0_0 l0_1) = some r := by first | (rw [hy270]; with_reducible exact H) | (have H2_ := (Option.bind_some _ _).symm.trans H; rw [hy270]; with_reducible exact H2_) | (have H2_ := (Option.bind_some _ _).symm.trans H; with_reducible exact H2_) | with_reducible exact H | (rw [hy270]; exact H) | exact H
   have Ny270 := mA hy270; clear hy270; have H' := mA H; clear H; have p267 : 0 ≤ (x11_1 : Int) := sqd; have q267 : x11_1 < (l1.length : Int) := sqd; obtain ⟨ad267, e267, hx267_0⟩ := Kd.at_int HR1.out x11_1 p267 q267
   cases e267
   replace hx267_0 := sqh HB hx267_0; replace p267 := eq_true p267; replace q267 := eq_true q267; have hcz11_0 := sqZ0 BK263; have hcz11_1 := sqZ1 BK263; have hfz11_0 := blk_frozen BK263.out 0; have hfz11_1 := blk_frozen BK263.out 1; go_wp2_with (first | (refine sqG 95 (some 18) Try.func95 #[.agg #[.int .i64 a0_0, .slice A0_1 l0_1.length c0_1], .int .i64 (rd l1 x11_1)] (h := ?_); (with_reducible refine (impl_Table_around.calls a0_0 _ _ l0_1 (rd l1 x11_1) t268 t269 _ ?s1 ?s2 A9.out).mono ?_); (case s1 => repeat (first | exact (Kd.C_below HR0_1.out HB.out) | (with_reducible refine Kd.C_alloc ?_ _) | (with_reducible refine Kd.C_drewN ?_ _) | (with_reducible refine Kd.C_drew ?_))); (case s2 => exact HC0_1.out); rintro e w12 ⟨rfl, hb⟩; refine ⟨_, rfl, ?_⟩; replace HO_5 := mA (Kd.R_below (zq0 HO_5) hb); replace BK263 := mA (blk_below (g := gb263) (o := .cells #[.int .i64 a0_0, .slice A0_1 l0_1.length c0_1] 29 (0, 0)) (zq2 BK263) hb); replace HB := mA (below_step zq1 hb); (try clear hb)) | ((with_reducible refine gate_builtin (b := .append) (xs := #[.tmp 15, .tmp 19]) rfl ?_); at_builtin; refine Kd.R_append k64 (w0 := w) w.heap.size rfl (.tmp 15) (.tmp 19) 62 64 (.agg #[(.int .i64 0), (.int .i64 0)]) 16 rfl Try.underlying62 info64 rfl (by decide) (by omega) u5 x5_1 (⟨t268, t269⟩ : S64) [.int .i64 t268, .int .i64 t269] (fun _ => True) (fun _ => False) rfl rfl ?aP (fun _ hk => hk.elim) ?aF ?aO ?aB ?aS ?aL ?_; (case aP => exact k64_mkM _ _ _ (⟨t268, t269⟩ : S64)); (case aB => exact zq1); (case aF => exact (fun _ _ => trivial)); (case aO => exact (zq0 HO_5)); (case aS => exact (below_size zq1)); (case aL => have := LMc10.out; omega); intro v271 w13 ho hb hg hat; rw [← Ny270.out] at ho; replace BK263 := mA (blk_grown (g := gb263) (o := .cells #[.int .i64 a0_0, .slice A0_1 l0_1.length c0_1] 29 (0, 0)) (zq2 BK263) hg (Kd.R_ne HO_5.out BK263.out (by decide))); replace HB := mA (hb); have HO272 := mA (ho); clear HO_5 ho hb hg hat)); go_roundg k1
   case measure => have := HK1.out; omega
   case rel => exact ⟨(y270), (wrap64 (x11_1 + 1)), zq5, H', ⟨by have := HK1.out; omega⟩, ⟨zq0 HO272⟩, ⟨zq2 BK263⟩, ⟨zq1⟩⟩

end Go.Proofs.Ytmjabeddommiaaa.PFnExactIsCut
