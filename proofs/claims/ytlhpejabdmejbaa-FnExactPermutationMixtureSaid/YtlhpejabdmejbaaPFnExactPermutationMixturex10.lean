/- Written by this session's program (wip/tool/xprint.py) over the kit's printer. -/
import Derived.Test.YtlhpejabdmejbaaPFnExactPermutationMixturex0
import Derived.Test.YtlhpejabdmejbaaPFnExactPermutationMixturex9
namespace Go.Proofs.Ytlhpejabdmejbaa.PFnExactPermutationMixture
open Go.RowKit Go.Proofs.YtlhpejabdmejbaaW.PrintWords Go.Proofs.YtlhpejabdmejbaaW.PrintLast Go.Proofs.YtlhpejabdmejbaaW.PrintMore
attribute [local go_sem] max2_int min2_int max_two min_two max_three min_three max_four min_four   -- for this text's walks alone
set_option linter.unusedVariables false
set_option linter.unusedSimpArgs false

/-! ### slices_IndexFunc_int64_int64_impl_Mixture_addTo_1: function 118 -/
def slices_IndexFunc_int64_int64_impl_Mixture_addTo_1.l0 : Nat → List (List Int) → Int → Int → List Int → Option (Int)
  | 0, _, _, _, _ => none
  | k + 1, x0, x7, x8, x47000 => if x8 < x7 then (if 0 ≤ x8 then (if x8 < (x0.length : Int) then ((impl_Mixture_addTo_1.f k (rd_L1 x0 x8) x47000).bind fun t268 => (if t268 = true then (some x8) else (slices_IndexFunc_int64_int64_impl_Mixture_addTo_1.l0 k x0 x7 (wrap64 (x8 + 1)) x47000))) else (none)) else (none)) else (some (-1))
def slices_IndexFunc_int64_int64_impl_Mixture_addTo_1.f (k : Nat) (l0 : List (List Int)) (l1_0 : List Int) : Option (Int) := slices_IndexFunc_int64_int64_impl_Mixture_addTo_1.l0 k l0 (l0.length : Int) 0 l1_0
theorem slices_IndexFunc_int64_int64_impl_Mixture_addTo_1.mono_l : ∀ k, (∀ y0 y1 y2 y3, LeO (slices_IndexFunc_int64_int64_impl_Mixture_addTo_1.l0 k y0 y1 y2 y3) (slices_IndexFunc_int64_int64_impl_Mixture_addTo_1.l0 (k + 1) y0 y1 y2 y3))
  | 0 => fun _ _ _ _ r h => by simp [slices_IndexFunc_int64_int64_impl_Mixture_addTo_1.l0] at h
  | k + 1 => by
   have ih0 := slices_IndexFunc_int64_int64_impl_Mixture_addTo_1.mono_l k
   intros
   unfold slices_IndexFunc_int64_int64_impl_Mixture_addTo_1.l0
   all_goals repeat' first | (with_reducible first | apply ih0 | apply impl_Mixture_addTo_1.mono | exact LeO.refl _ | exact LeO.none _ | refine LeO.ite ?_ ?_ | refine LeO.bind ?_ (fun _ => ?_)) | apply ih0 | apply impl_Mixture_addTo_1.mono | exact LeO.none _ | refine LeO.ite ?_ ?_ | refine LeO.bind ?_ (fun _ => ?_)
theorem slices_IndexFunc_int64_int64_impl_Mixture_addTo_1.mono : ∀ a0 a1 k, LeO (slices_IndexFunc_int64_int64_impl_Mixture_addTo_1.f k a0 a1) (slices_IndexFunc_int64_int64_impl_Mixture_addTo_1.f (k + 1) a0 a1) := by
  intro a0 a1 k
  have ih0 := slices_IndexFunc_int64_int64_impl_Mixture_addTo_1.mono_l k
  unfold slices_IndexFunc_int64_int64_impl_Mixture_addTo_1.f
  repeat' first | (with_reducible first | apply ih0 | apply impl_Mixture_addTo_1.mono | exact LeO.refl _ | exact LeO.none _ | refine LeO.ite ?_ ?_ | refine LeO.bind ?_ (fun _ => ?_)) | apply ih0 | apply impl_Mixture_addTo_1.mono | exact LeO.none _ | refine LeO.ite ?_ ?_ | refine LeO.bind ?_ (fun _ => ?_)
set_option maxHeartbeats 8000000 in
set_option maxRecDepth 100000 in
theorem slices_IndexFunc_int64_int64_impl_Mixture_addTo_1.calls (k : Nat) (A0 : Option Addr) (c0 : Nat) (l0 : List (List Int)) (gv1_0_ : Nat) (A1_0 : Option Addr) (c1_0 : Nat) (l1_0 : List Int) (r : Int) (w : World) (hr0 : Kd.C (Kd.slice 2 (Kd.int .i64)) w A0 l0.length l0) (hc0 : l0.length ≤ c0) (hbx1_0_ : w.heap[gv1_0_]? = some (.cells #[.slice A1_0 l1_0.length c1_0] 22 (0, 0))) (hr1_0 : Kd.C (Kd.int .i64) w A1_0 l1_0.length l1_0) (hc1_0 : l1_0.length ≤ c1_0) (h : slices_IndexFunc_int64_int64_impl_Mixture_addTo_1.f k l0 l1_0 = some r) :
    Calls Try.prog 118 #[.slice A0 l0.length c0, .func (.func 124) #[] #[.pointer (some ⟨gv1_0_, 0, none⟩)]] w fun e w' => e = .returned (.int .i64 r) ∧ Below w.heap.size w w' := by
 have HR0 := mA hr0; have HC0 := mA hc0; clear hr0 hc0; have HR1_0 := mA hr1_0; have HC1_0 := mA hc1_0; clear hr1_0 hc1_0; have BK46 := mA hbx1_0_; clear hbx1_0_; have HB := mA (Below.refl w.heap.size w); have H : (slices_IndexFunc_int64_int64_impl_Mixture_addTo_1.l0 k l0 (l0.length : Int) 0 l1_0) = some r := h; clear h; have H' := mA H; clear H; go_enter Try.func118, Try.ntmps118; go_wp2; go_loopg [8] k (fun kq v8 w' => ∃ (x8_1 : Int), v8 = .int .i64 x8_1 ∧ Aside0 (slices_IndexFunc_int64_int64_impl_Mixture_addTo_1.l0 kq l0 (l0.length : Int) x8_1 l1_0 = some r) ∧ Aside0 (kq ≤ k) ∧ Aside0 (w'.heap[gv1_0_]? = some (.cells #[(.slice A1_0 l1_0.length c1_0)] 22 (0, 0))) ∧ Aside0 (Below w.heap.size w w'))
 case atStart => exact ⟨(0), zq4, H', ⟨Nat.le_refl _⟩, ⟨zq1 BK46⟩, ⟨zq2⟩⟩
 case round =>
  clear H'; obtain ⟨x8_1, rfl, HA, HK1, BK46, HB⟩ := hrel
  cases gk with
  | zero => exact absurd HA.out (by simp [slices_IndexFunc_int64_int64_impl_Mixture_addTo_1.l0])
  | succ k1 =>
   have H := HA.out; clear HA; simp only [slices_IndexFunc_int64_int64_impl_Mixture_addTo_1.l0] at H; refine sqC (x8_1 < (l0.length : Int)) (fun c3 => ?_) (fun c3 => ?_)
   ·rw [if_neg c3] at H; replace c3 := decide_eq_false c3; obtain rfl := Option.some.inj H; go_wp2; go_ret; exact ⟨zq7, zq2⟩
   rw [if_pos c3] at H; replace c3 := decide_eq_true c3; obtain ⟨c4, H⟩ := sqI H; have c4b0 : decide (0 ≤ x8_1) = true := decide_eq_true c4; clear c4; obtain ⟨c5, H⟩ := sqI H; replace c5 := decide_eq_true c5; obtain ⟨t268, A6, H⟩ := sqB H; by_cases c7 : t268 = true
   ·subst c7; rw [if_pos rfl] at H; obtain rfl := Option.some.inj H; have p267 : 0 ≤ (x8_1 : Int) := sqd; have q267 : x8_1 < (l0.length : Int) := sqd; obtain ⟨ad267, A267_0, c267_0, e267, hx267_0, hl267_0, hi267_0⟩ := at_L1 HR0.out x8_1 p267 q267
    cases e267
    replace hx267_0 := sqh HB hx267_0; have HR267_0 := mA hi267_0; have HC267_0 := mA hl267_0; clear hi267_0 hl267_0; replace p267 := eq_true p267; replace q267 := eq_true q267; go_wp2_with (first | (go_at_call 124; (with_reducible refine (impl_Mixture_addTo_1.calls k1 _ _ (rd_L1 l0 x8_1) gv1_0_ A1_0 c1_0 l1_0 true _ ?s1 ?s2 ?s3 ?s4 ?s5 A6.out).mono ?_); (case s1 => exact zq9 HR267_0); (case s2 => exact HC267_0.out); (case s3 => exact zq12 BK46); (case s4 => exact zq9 HR1_0); (case s5 => exact HC1_0.out); rintro e w8 ⟨rfl, hb⟩; replace BK46 := mA (blk_below (g := gv1_0_) (o := .cells #[.slice A1_0 l1_0.length c1_0] 22 (0, 0)) (zq1 BK46) hb); replace HB := mA (below_step zq2 hb); (try clear hb))); go_ret; exact ⟨zq7, zq2⟩
   replace c7 := Bool.eq_false_iff.mpr c7; subst c7; rw [if_neg (show ¬ (false = true) by decide)] at H; have H' := mA H; clear H; have p267 : 0 ≤ (x8_1 : Int) := sqd; have q267 : x8_1 < (l0.length : Int) := sqd; obtain ⟨ad267, A267_0, c267_0, e267, hx267_0, hl267_0, hi267_0⟩ := at_L1 HR0.out x8_1 p267 q267
   cases e267
   replace hx267_0 := sqh HB hx267_0; have HR267_0 := mA hi267_0; have HC267_0 := mA hl267_0; clear hi267_0 hl267_0; replace p267 := eq_true p267; replace q267 := eq_true q267; go_wp2_with (first | (go_at_call 124; (with_reducible refine (impl_Mixture_addTo_1.calls k1 _ _ (rd_L1 l0 x8_1) gv1_0_ A1_0 c1_0 l1_0 false _ ?s1 ?s2 ?s3 ?s4 ?s5 A6.out).mono ?_); (case s1 => exact zq9 HR267_0); (case s2 => exact HC267_0.out); (case s3 => exact zq12 BK46); (case s4 => exact zq9 HR1_0); (case s5 => exact HC1_0.out); rintro e w9 ⟨rfl, hb⟩; replace BK46 := mA (blk_below (g := gv1_0_) (o := .cells #[.slice A1_0 l1_0.length c1_0] 22 (0, 0)) (zq1 BK46) hb); replace HB := mA (below_step zq2 hb); (try clear hb))); go_roundg k1
   case measure => have := HK1.out; omega
   case rel => exact ⟨(wrap64 (x8_1 + 1)), zq4, H', ⟨by have := HK1.out; omega⟩, ⟨zq1 BK46⟩, ⟨zq2⟩⟩

-- NOT PRINTED: function 89 (impl_Mixture_addTo)

end Go.Proofs.Ytlhpejabdmejbaa.PFnExactPermutationMixture
