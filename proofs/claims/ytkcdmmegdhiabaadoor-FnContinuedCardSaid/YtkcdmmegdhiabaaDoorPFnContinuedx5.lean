/- Written by this session's program (wip/tool/xprint.py) over the kit's printer. -/
import Derived.Test.YtkcdmmegdhiabaaDoorPFnContinuedx0
import Derived.Test.YtkcdmmegdhiabaaDoorPFnContinuedx1
import Derived.Test.YtkcdmmegdhiabaaDoorPFnContinuedx2
import Derived.Test.YtkcdmmegdhiabaaDoorPFnContinuedx3
import Derived.Test.YtkcdmmegdhiabaaDoorPFnContinuedx4
namespace Go.Proofs.YtkcdmmegdhiabaaDoor.PFnContinued
open Go.RowKit Go.Proofs.YtkcdmmegdhiabaaDoorW.PrintWords Go.Proofs.YtkcdmmegdhiabaaDoorW.PrintLast Go.Proofs.YtkcdmmegdhiabaaDoorW.PrintMore
attribute [local go_sem] max2_int min2_int max_two min_two max_three min_three max_four min_four   -- for this text's walks alone
set_option linter.unusedVariables false
set_option linter.unusedSimpArgs false

/-! ### laws_FnContinued: function 4 -/
mutual
def laws_FnContinued.j0 : Nat → List Int → Bool → Option (Bool)
  | 0, _, _ => none
  | k + 1, x1, x74 => if x74 = true then (some false) else (laws_FnContinued.l0 k x1 (([] : List Int)) 1 1 0)
def laws_FnContinued.l0 : Nat → List Int → List Int → Int → Int → Int → Option (Bool)
  | 0, _, _, _, _, _ => none
  | k + 1, x1, x12, x13, x14, x15 => (laws_b10At.f x1 0 4).bind fun t169 => (if x15 < (wrap64 (1 + t169)) then ((laws_b10At.f x1 (wrap64 (x15 + 1)) 3).bind fun t170 => (if x12.length < 17592186044416 then (laws_FnContinued.l0 k x1 (x12 ++ [wrap64 (1 + t170)]) x14 (wrap64 ((wrap64 ((wrap64 (1 + t170)) * x14)) + x13)) (wrap64 (x15 + 1))) else (none))) else ((impl_StandardWord.f k x12).bind fun bt174 => ((spec_StandardWord.f k x12).bind fun bt176 => (if (bt174.2 != bt176.2) = true then (some false) else (if bt174.2 = true then (if (bt174.1.size : Int) = x14 then ((impl_IsBalanced.f k bt174.1).bind fun t178 => (some t178)) else (some false)) else (some true))))))
end
def laws_FnContinued.f (k : Nat) (l0 : List Int) (l1 : List Int) : Option (Bool) := (laws_b10Long.f l0 l1).bind fun t153 => (if t153 = true then (some true) else ((laws_b10At.f l0 0 256).bind fun t154 => ((laws_b10At.f l0 1 16).bind fun t155 => ((laws_b10At.f l0 2 256).bind fun t156 => ((laws_b10At.f l0 3 16).bind fun t157 => ((impl_ContinuedOf.f k (wrap64 ((wrap64 (16 * t154)) + t155)) (wrap64 ((wrap64 (1 + (wrap64 (16 * t156)))) + t157))).bind fun bt158 => ((impl_FromContinued.f k bt158.1).bind fun bt162 => (if bt158.2 = true then (if bt162.2.2 = true then (if (wrap64 ((wrap64 ((wrap64 (16 * t154)) + t155)) * bt162.2.1)) = (wrap64 ((wrap64 ((wrap64 (1 + (wrap64 (16 * t156)))) + t157)) * bt162.1)) then (if bt162.2.1 < 1 then (laws_FnContinued.j0 k l1 true) else ((laws_b10Gcd.f k bt162.1 bt162.2.1).bind fun t165 => (laws_FnContinued.j0 k l1 (t165 != 1)))) else (laws_FnContinued.j0 k l1 true)) else (laws_FnContinued.j0 k l1 true)) else (laws_FnContinued.j0 k l1 true)))))))))
theorem laws_FnContinued.mono_l : ∀ k, (∀ y0 y1, LeO (laws_FnContinued.j0 k y0 y1) (laws_FnContinued.j0 (k + 1) y0 y1)) ∧ (∀ y0 y1 y2 y3 y4, LeO (laws_FnContinued.l0 k y0 y1 y2 y3 y4) (laws_FnContinued.l0 (k + 1) y0 y1 y2 y3 y4))
  | 0 => ⟨fun _ _ r h => by simp [laws_FnContinued.j0] at h, fun _ _ _ _ _ r h => by simp [laws_FnContinued.l0] at h⟩
  | k + 1 => by
    obtain ⟨ih0, ih1⟩ := laws_FnContinued.mono_l k
    refine ⟨?_, ?_⟩
    · intro y0 y1
      unfold laws_FnContinued.j0
      repeat' first
      | (with_reducible exact ih0 _ _)
      | (with_reducible exact ih1 _ _ _ _ _)
      | (with_reducible exact impl_ContinuedOf.mono _ _ _)
      | (with_reducible exact impl_FromContinued.mono _ _)
      | (with_reducible exact impl_IsBalanced.mono _ _)
      | (with_reducible exact impl_StandardWord.mono _ _)
      | (with_reducible exact laws_b10Gcd.mono _ _ _)
      | (with_reducible exact spec_StandardWord.mono _ _)
      | (with_reducible exact LeO.refl _)
      | (with_reducible exact LeO.none _)
      | (with_reducible refine LeO.ite ?_ ?_)
      | (with_reducible refine LeO.bind ?_ (fun _ => ?_))
      | exact ih0 _ _
      | exact ih1 _ _ _ _ _
      | exact impl_ContinuedOf.mono _ _ _
      | exact impl_FromContinued.mono _ _
      | exact impl_IsBalanced.mono _ _
      | exact impl_StandardWord.mono _ _
      | exact laws_b10Gcd.mono _ _ _
      | exact spec_StandardWord.mono _ _
      | exact LeO.none _
      | refine LeO.ite ?_ ?_
      | refine LeO.bind ?_ (fun _ => ?_)
    · intro y0 y1 y2 y3 y4
      unfold laws_FnContinued.l0
      repeat' first
      | (with_reducible exact ih0 _ _)
      | (with_reducible exact ih1 _ _ _ _ _)
      | (with_reducible exact impl_ContinuedOf.mono _ _ _)
      | (with_reducible exact impl_FromContinued.mono _ _)
      | (with_reducible exact impl_IsBalanced.mono _ _)
      | (with_reducible exact impl_StandardWord.mono _ _)
      | (with_reducible exact laws_b10Gcd.mono _ _ _)
      | (with_reducible exact spec_StandardWord.mono _ _)
      | (with_reducible exact LeO.refl _)
      | (with_reducible exact LeO.none _)
      | (with_reducible refine LeO.ite ?_ ?_)
      | (with_reducible refine LeO.bind ?_ (fun _ => ?_))
      | exact ih0 _ _
      | exact ih1 _ _ _ _ _
      | exact impl_ContinuedOf.mono _ _ _
      | exact impl_FromContinued.mono _ _
      | exact impl_IsBalanced.mono _ _
      | exact impl_StandardWord.mono _ _
      | exact laws_b10Gcd.mono _ _ _
      | exact spec_StandardWord.mono _ _
      | exact LeO.none _
      | refine LeO.ite ?_ ?_
      | refine LeO.bind ?_ (fun _ => ?_)
theorem laws_FnContinued.mono : ∀ a0 a1 k, LeO (laws_FnContinued.f k a0 a1) (laws_FnContinued.f (k + 1) a0 a1) := by
  intro a0 a1 k
  obtain ⟨ih0, ih1⟩ := laws_FnContinued.mono_l k
  unfold laws_FnContinued.f
  repeat' first
      | (with_reducible exact ih0 _ _)
      | (with_reducible exact ih1 _ _ _ _ _)
      | (with_reducible exact impl_ContinuedOf.mono _ _ _)
      | (with_reducible exact impl_FromContinued.mono _ _)
      | (with_reducible exact impl_IsBalanced.mono _ _)
      | (with_reducible exact impl_StandardWord.mono _ _)
      | (with_reducible exact laws_b10Gcd.mono _ _ _)
      | (with_reducible exact spec_StandardWord.mono _ _)
      | (with_reducible exact LeO.refl _)
      | (with_reducible exact LeO.none _)
      | (with_reducible refine LeO.ite ?_ ?_)
      | (with_reducible refine LeO.bind ?_ (fun _ => ?_))
      | exact ih0 _ _
      | exact ih1 _ _ _ _ _
      | exact impl_ContinuedOf.mono _ _ _
      | exact impl_FromContinued.mono _ _
      | exact impl_IsBalanced.mono _ _
      | exact impl_StandardWord.mono _ _
      | exact laws_b10Gcd.mono _ _ _
      | exact spec_StandardWord.mono _ _
      | exact LeO.none _
      | refine LeO.ite ?_ ?_
      | refine LeO.bind ?_ (fun _ => ?_)
set_option maxHeartbeats 8000000 in
set_option maxRecDepth 100000 in
theorem laws_FnContinued.calls (k : Nat) (A0 : Option Addr) (c0 : Nat) (l0 : List Int) (A1 : Option Addr) (c1 : Nat) (l1 : List Int) (r : Bool) (w : World) (hr0 : Kd.C (Kd.int .u8) w A0 l0.length l0) (hc0 : l0.length ≤ c0) (hr1 : Kd.C (Kd.int .u8) w A1 l1.length l1) (hc1 : l1.length ≤ c1) (h : laws_FnContinued.f k l0 l1 = some r) :
    Calls Tryd.prog 4 #[.slice A0 l0.length c0, .slice A1 l1.length c1] w fun e w' => e = .returned (.bool r) ∧ Below w.heap.size w w' := by
  have HR0 := Aside0.mk hr0
  have HC0 := Aside0.mk hc0
  clear hr0 hc0
  have HR1 := Aside0.mk hr1
  have HC1 := Aside0.mk hc1
  clear hr1 hc1
  have HB := Aside0.mk (Below.refl w.heap.size w)
  have H : ((laws_b10Long.f l0 l1).bind fun t153 => (if t153 = true then (some true) else ((laws_b10At.f l0 0 256).bind fun t154 => ((laws_b10At.f l0 1 16).bind fun t155 => ((laws_b10At.f l0 2 256).bind fun t156 => ((laws_b10At.f l0 3 16).bind fun t157 => ((impl_ContinuedOf.f k (wrap64 ((wrap64 (16 * t154)) + t155)) (wrap64 ((wrap64 (1 + (wrap64 (16 * t156)))) + t157))).bind fun bt158 => ((impl_FromContinued.f k bt158.1).bind fun bt162 => (if bt158.2 = true then (if bt162.2.2 = true then (if (wrap64 ((wrap64 ((wrap64 (16 * t154)) + t155)) * bt162.2.1)) = (wrap64 ((wrap64 ((wrap64 (1 + (wrap64 (16 * t156)))) + t157)) * bt162.1)) then (if bt162.2.1 < 1 then (laws_FnContinued.j0 k l1 true) else ((laws_b10Gcd.f k bt162.1 bt162.2.1).bind fun t165 => (laws_FnContinued.j0 k l1 (t165 != 1)))) else (laws_FnContinued.j0 k l1 true)) else (laws_FnContinued.j0 k l1 true)) else (laws_FnContinued.j0 k l1 true)))))))))) = some r := h
  clear h
  replace H := Option.bind_eq_some_iff.mp H
  obtain ⟨t153, A30, H⟩ := H
  replace H : (if t153 = true then (some true) else ((laws_b10At.f l0 0 256).bind fun t154 => ((laws_b10At.f l0 1 16).bind fun t155 => ((laws_b10At.f l0 2 256).bind fun t156 => ((laws_b10At.f l0 3 16).bind fun t157 => ((impl_ContinuedOf.f k (wrap64 ((wrap64 (16 * t154)) + t155)) (wrap64 ((wrap64 (1 + (wrap64 (16 * t156)))) + t157))).bind fun bt158 => ((impl_FromContinued.f k bt158.1).bind fun bt162 => (if bt158.2 = true then (if bt162.2.2 = true then (if (wrap64 ((wrap64 ((wrap64 (16 * t154)) + t155)) * bt162.2.1)) = (wrap64 ((wrap64 ((wrap64 (1 + (wrap64 (16 * t156)))) + t157)) * bt162.1)) then (if bt162.2.1 < 1 then (laws_FnContinued.j0 k l1 true) else ((laws_b10Gcd.f k bt162.1 bt162.2.1).bind fun t165 => (laws_FnContinued.j0 k l1 (t165 != 1)))) else (laws_FnContinued.j0 k l1 true)) else (laws_FnContinued.j0 k l1 true)) else (laws_FnContinued.j0 k l1 true))))))))) = some r := H
  have A3 := Aside0.mk A30
  clear A30
  by_cases c4 : t153 = true
  · subst c4
    have H1 : (some true) = some r := by rw [if_pos rfl] at H; exact H
    clear H
    have H := H1
    clear H1
    obtain rfl := Option.some.inj H
    go_enter Tryd.func4, Tryd.ntmps4
    go_wp2_with (first | ((with_reducible refine gate_callee (f := 5) rfl ?_); refine goesL_ (some 24) rfl rfl Tryd.func5 (by kernel_rfl) rfl #[.slice A0 l0.length c0, .slice A1 l1.length c1] rfl (by (try simp only [List.map_toArray, List.map_cons, List.map_nil]); first | done | rfl | (simp only [List.length_drop, List.length_take]; rfl)) ?_; (with_reducible refine (laws_b10Long.calls _ _ l0 _ _ l1 true _ ?side1 ?side2 ?side3 ?side4 A3.out).mono ?_); (case side1 => repeat (first | exact HR0.out | (with_reducible refine Kd.C_alloc ?_ _) | (with_reducible refine Kd.C_drewN ?_ _) | (with_reducible refine Kd.C_drew ?_))); (case side2 => exact HC0.out); (case side3 => repeat (first | exact HR1.out | (with_reducible refine Kd.C_alloc ?_ _) | (with_reducible refine Kd.C_drewN ?_ _) | (with_reducible refine Kd.C_drew ?_))); (case side4 => exact HC1.out); rintro e w' ⟨rfl, ⟨nd, rfl⟩⟩; refine ⟨_, rfl, ?_⟩))
    go_ret
    exact ⟨by first | rfl | (simp [errW_none, errW_some] <;> rfl) | (simp [*, errW_none, errW_some] <;> rfl), by repeat (first | (with_reducible first | exact HB.out | apply below_alloc | apply pw_below_drewN | apply below_drew1) | exact HB.out)⟩
  · replace c4 := Bool.eq_false_iff.mpr c4
    subst c4
    have H1 : ((laws_b10At.f l0 0 256).bind fun t154 => ((laws_b10At.f l0 1 16).bind fun t155 => ((laws_b10At.f l0 2 256).bind fun t156 => ((laws_b10At.f l0 3 16).bind fun t157 => ((impl_ContinuedOf.f k (wrap64 ((wrap64 (16 * t154)) + t155)) (wrap64 ((wrap64 (1 + (wrap64 (16 * t156)))) + t157))).bind fun bt158 => ((impl_FromContinued.f k bt158.1).bind fun bt162 => (if bt158.2 = true then (if bt162.2.2 = true then (if (wrap64 ((wrap64 ((wrap64 (16 * t154)) + t155)) * bt162.2.1)) = (wrap64 ((wrap64 ((wrap64 (1 + (wrap64 (16 * t156)))) + t157)) * bt162.1)) then (if bt162.2.1 < 1 then (laws_FnContinued.j0 k l1 true) else ((laws_b10Gcd.f k bt162.1 bt162.2.1).bind fun t165 => (laws_FnContinued.j0 k l1 (t165 != 1)))) else (laws_FnContinued.j0 k l1 true)) else (laws_FnContinued.j0 k l1 true)) else (laws_FnContinued.j0 k l1 true)))))))) = some r := by rw [if_neg (show ¬ (false = true) by decide)] at H; exact H
    clear H
    have H := H1
    clear H1
    replace H := Option.bind_eq_some_iff.mp H
    obtain ⟨t154, A50, H⟩ := H
    replace H : ((laws_b10At.f l0 1 16).bind fun t155 => ((laws_b10At.f l0 2 256).bind fun t156 => ((laws_b10At.f l0 3 16).bind fun t157 => ((impl_ContinuedOf.f k (wrap64 ((wrap64 (16 * t154)) + t155)) (wrap64 ((wrap64 (1 + (wrap64 (16 * t156)))) + t157))).bind fun bt158 => ((impl_FromContinued.f k bt158.1).bind fun bt162 => (if bt158.2 = true then (if bt162.2.2 = true then (if (wrap64 ((wrap64 ((wrap64 (16 * t154)) + t155)) * bt162.2.1)) = (wrap64 ((wrap64 ((wrap64 (1 + (wrap64 (16 * t156)))) + t157)) * bt162.1)) then (if bt162.2.1 < 1 then (laws_FnContinued.j0 k l1 true) else ((laws_b10Gcd.f k bt162.1 bt162.2.1).bind fun t165 => (laws_FnContinued.j0 k l1 (t165 != 1)))) else (laws_FnContinued.j0 k l1 true)) else (laws_FnContinued.j0 k l1 true)) else (laws_FnContinued.j0 k l1 true))))))) = some r := H
    have A5 := Aside0.mk A50
    clear A50
    replace H := Option.bind_eq_some_iff.mp H
    obtain ⟨t155, A60, H⟩ := H
    replace H : ((laws_b10At.f l0 2 256).bind fun t156 => ((laws_b10At.f l0 3 16).bind fun t157 => ((impl_ContinuedOf.f k (wrap64 ((wrap64 (16 * t154)) + t155)) (wrap64 ((wrap64 (1 + (wrap64 (16 * t156)))) + t157))).bind fun bt158 => ((impl_FromContinued.f k bt158.1).bind fun bt162 => (if bt158.2 = true then (if bt162.2.2 = true then (if (wrap64 ((wrap64 ((wrap64 (16 * t154)) + t155)) * bt162.2.1)) = (wrap64 ((wrap64 ((wrap64 (1 + (wrap64 (16 * t156)))) + t157)) * bt162.1)) then (if bt162.2.1 < 1 then (laws_FnContinued.j0 k l1 true) else ((laws_b10Gcd.f k bt162.1 bt162.2.1).bind fun t165 => (laws_FnContinued.j0 k l1 (t165 != 1)))) else (laws_FnContinued.j0 k l1 true)) else (laws_FnContinued.j0 k l1 true)) else (laws_FnContinued.j0 k l1 true)))))) = some r := H
    have A6 := Aside0.mk A60
    clear A60
    replace H := Option.bind_eq_some_iff.mp H
    obtain ⟨t156, A70, H⟩ := H
    replace H : ((laws_b10At.f l0 3 16).bind fun t157 => ((impl_ContinuedOf.f k (wrap64 ((wrap64 (16 * t154)) + t155)) (wrap64 ((wrap64 (1 + (wrap64 (16 * t156)))) + t157))).bind fun bt158 => ((impl_FromContinued.f k bt158.1).bind fun bt162 => (if bt158.2 = true then (if bt162.2.2 = true then (if (wrap64 ((wrap64 ((wrap64 (16 * t154)) + t155)) * bt162.2.1)) = (wrap64 ((wrap64 ((wrap64 (1 + (wrap64 (16 * t156)))) + t157)) * bt162.1)) then (if bt162.2.1 < 1 then (laws_FnContinued.j0 k l1 true) else ((laws_b10Gcd.f k bt162.1 bt162.2.1).bind fun t165 => (laws_FnContinued.j0 k l1 (t165 != 1)))) else (laws_FnContinued.j0 k l1 true)) else (laws_FnContinued.j0 k l1 true)) else (laws_FnContinued.j0 k l1 true))))) = some r := H
    have A7 := Aside0.mk A70
    clear A70
    replace H := Option.bind_eq_some_iff.mp H
    obtain ⟨t157, A80, H⟩ := H
    replace H : ((impl_ContinuedOf.f k (wrap64 ((wrap64 (16 * t154)) + t155)) (wrap64 ((wrap64 (1 + (wrap64 (16 * t156)))) + t157))).bind fun bt158 => ((impl_FromContinued.f k bt158.1).bind fun bt162 => (if bt158.2 = true then (if bt162.2.2 = true then (if (wrap64 ((wrap64 ((wrap64 (16 * t154)) + t155)) * bt162.2.1)) = (wrap64 ((wrap64 ((wrap64 (1 + (wrap64 (16 * t156)))) + t157)) * bt162.1)) then (if bt162.2.1 < 1 then (laws_FnContinued.j0 k l1 true) else ((laws_b10Gcd.f k bt162.1 bt162.2.1).bind fun t165 => (laws_FnContinued.j0 k l1 (t165 != 1)))) else (laws_FnContinued.j0 k l1 true)) else (laws_FnContinued.j0 k l1 true)) else (laws_FnContinued.j0 k l1 true)))) = some r := H
    have A8 := Aside0.mk A80
    clear A80
    replace H := Option.bind_eq_some_iff.mp H
    obtain ⟨⟨t158, t159⟩, A90, H⟩ := H
    replace H : ((impl_FromContinued.f k t158).bind fun bt162 => (if t159 = true then (if bt162.2.2 = true then (if (wrap64 ((wrap64 ((wrap64 (16 * t154)) + t155)) * bt162.2.1)) = (wrap64 ((wrap64 ((wrap64 (1 + (wrap64 (16 * t156)))) + t157)) * bt162.1)) then (if bt162.2.1 < 1 then (laws_FnContinued.j0 k l1 true) else ((laws_b10Gcd.f k bt162.1 bt162.2.1).bind fun t165 => (laws_FnContinued.j0 k l1 (t165 != 1)))) else (laws_FnContinued.j0 k l1 true)) else (laws_FnContinued.j0 k l1 true)) else (laws_FnContinued.j0 k l1 true))) = some r := H
    have A9 := Aside0.mk A90
    clear A90
    replace H := Option.bind_eq_some_iff.mp H
    obtain ⟨⟨t162, t163, t164⟩, A100, H⟩ := H
    replace H : (if t159 = true then (if t164 = true then (if (wrap64 ((wrap64 ((wrap64 (16 * t154)) + t155)) * t163)) = (wrap64 ((wrap64 ((wrap64 (1 + (wrap64 (16 * t156)))) + t157)) * t162)) then (if t163 < 1 then (laws_FnContinued.j0 k l1 true) else ((laws_b10Gcd.f k t162 t163).bind fun t165 => (laws_FnContinued.j0 k l1 (t165 != 1)))) else (laws_FnContinued.j0 k l1 true)) else (laws_FnContinued.j0 k l1 true)) else (laws_FnContinued.j0 k l1 true)) = some r := H
    have A10 := Aside0.mk A100
    clear A100
    have HC11 := Aside0.mk H
    clear H
    go_enter Tryd.func4, Tryd.ntmps4
    go_upto_region 7 with (first | ((with_reducible refine gate_callee (f := 5) rfl ?_); refine goesL_ (some 24) rfl rfl Tryd.func5 (by kernel_rfl) rfl #[.slice A0 l0.length c0, .slice A1 l1.length c1] rfl (by (try simp only [List.map_toArray, List.map_cons, List.map_nil]); first | done | rfl | (simp only [List.length_drop, List.length_take]; rfl)) ?_; (with_reducible refine (laws_b10Long.calls _ _ l0 _ _ l1 false _ ?side1 ?side2 ?side3 ?side4 A3.out).mono ?_); (case side1 => repeat (first | exact HR0.out | (with_reducible refine Kd.C_alloc ?_ _) | (with_reducible refine Kd.C_drewN ?_ _) | (with_reducible refine Kd.C_drew ?_))); (case side2 => exact HC0.out); (case side3 => repeat (first | exact HR1.out | (with_reducible refine Kd.C_alloc ?_ _) | (with_reducible refine Kd.C_drewN ?_ _) | (with_reducible refine Kd.C_drew ?_))); (case side4 => exact HC1.out); rintro e w' ⟨rfl, ⟨nd, rfl⟩⟩; refine ⟨_, rfl, ?_⟩) | ((with_reducible refine gate_callee (f := 6) rfl ?_); refine goesL_ (some 26) rfl rfl Tryd.func6 (by kernel_rfl) rfl #[.slice A0 l0.length c0, .int .i64 0, .int .i64 256] rfl (by (try simp only [List.map_toArray, List.map_cons, List.map_nil]); first | done | rfl | (simp only [List.length_drop, List.length_take]; rfl)) ?_; (with_reducible refine (laws_b10At.calls _ _ l0 0 256 t154 _ ?side1 ?side2 A5.out).mono ?_); (case side1 => repeat (first | exact HR0.out | (with_reducible refine Kd.C_alloc ?_ _) | (with_reducible refine Kd.C_drewN ?_ _) | (with_reducible refine Kd.C_drew ?_))); (case side2 => exact HC0.out); rintro e w' ⟨rfl, ⟨nd, rfl⟩⟩; refine ⟨_, rfl, ?_⟩) | ((with_reducible refine gate_callee (f := 6) rfl ?_); refine goesL_ (some 29) rfl rfl Tryd.func6 (by kernel_rfl) rfl #[.slice A0 l0.length c0, .int .i64 1, .int .i64 16] rfl (by (try simp only [List.map_toArray, List.map_cons, List.map_nil]); first | done | rfl | (simp only [List.length_drop, List.length_take]; rfl)) ?_; (with_reducible refine (laws_b10At.calls _ _ l0 1 16 t155 _ ?side1 ?side2 A6.out).mono ?_); (case side1 => repeat (first | exact HR0.out | (with_reducible refine Kd.C_alloc ?_ _) | (with_reducible refine Kd.C_drewN ?_ _) | (with_reducible refine Kd.C_drew ?_))); (case side2 => exact HC0.out); rintro e w' ⟨rfl, ⟨nd, rfl⟩⟩; refine ⟨_, rfl, ?_⟩) | ((with_reducible refine gate_callee (f := 6) rfl ?_); refine goesL_ (some 32) rfl rfl Tryd.func6 (by kernel_rfl) rfl #[.slice A0 l0.length c0, .int .i64 2, .int .i64 256] rfl (by (try simp only [List.map_toArray, List.map_cons, List.map_nil]); first | done | rfl | (simp only [List.length_drop, List.length_take]; rfl)) ?_; (with_reducible refine (laws_b10At.calls _ _ l0 2 256 t156 _ ?side1 ?side2 A7.out).mono ?_); (case side1 => repeat (first | exact HR0.out | (with_reducible refine Kd.C_alloc ?_ _) | (with_reducible refine Kd.C_drewN ?_ _) | (with_reducible refine Kd.C_drew ?_))); (case side2 => exact HC0.out); rintro e w' ⟨rfl, ⟨nd, rfl⟩⟩; refine ⟨_, rfl, ?_⟩) | ((with_reducible refine gate_callee (f := 6) rfl ?_); refine goesL_ (some 36) rfl rfl Tryd.func6 (by kernel_rfl) rfl #[.slice A0 l0.length c0, .int .i64 3, .int .i64 16] rfl (by (try simp only [List.map_toArray, List.map_cons, List.map_nil]); first | done | rfl | (simp only [List.length_drop, List.length_take]; rfl)) ?_; (with_reducible refine (laws_b10At.calls _ _ l0 3 16 t157 _ ?side1 ?side2 A8.out).mono ?_); (case side1 => repeat (first | exact HR0.out | (with_reducible refine Kd.C_alloc ?_ _) | (with_reducible refine Kd.C_drewN ?_ _) | (with_reducible refine Kd.C_drew ?_))); (case side2 => exact HC0.out); rintro e w' ⟨rfl, ⟨nd, rfl⟩⟩; refine ⟨_, rfl, ?_⟩) | ((with_reducible refine gate_callee (f := 13) rfl ?_); refine goesL_ (some 41) rfl rfl Tryd.func13 (by kernel_rfl) rfl #[.int .i64 (wrap64 ((wrap64 (16 * t154)) + t155)), .int .i64 (wrap64 ((wrap64 (1 + (wrap64 (16 * t156)))) + t157))] rfl (by (try simp only [List.map_toArray, List.map_cons, List.map_nil]); first | done | rfl | (simp only [List.length_drop, List.length_take]; rfl)) ?_; (with_reducible refine (impl_ContinuedOf.calls k (wrap64 ((wrap64 (16 * t154)) + t155)) (wrap64 ((wrap64 (1 + (wrap64 (16 * t156)))) + t157)) t158 t159 _ A9.out).mono ?_); rintro e w12 ⟨v160, rfl, ho0, hb⟩; refine ⟨_, rfl, ?_⟩; have n0_ := Aside0.mk (Kd.R_lower ho0 (below_size (by repeat (first | (with_reducible first | exact HB.out | apply below_alloc | apply pw_below_drewN | apply below_drew1) | exact HB.out)))); have n1_ := Aside0.mk (below_step (by repeat (first | (with_reducible first | exact HB.out | apply below_alloc | apply pw_below_drewN | apply below_drew1) | exact HB.out)) hb); clear HB; have HO161 := n0_; have HB := n1_; clear n0_ n1_; (try clear hb); (try clear hb2); (try clear hk); (try clear hi); (try clear ho0); obtain ⟨Ao13, co13, eo13⟩ := Kd.R_slice HO161.out; subst eo13) | ((with_reducible refine gate_callee (f := 14) rfl ?_); refine goesL_ (some 46) rfl rfl Tryd.func14 (by kernel_rfl) rfl #[.slice Ao13 t158.length co13] rfl (by (try simp only [List.map_toArray, List.map_cons, List.map_nil]); first | done | rfl | (simp only [List.length_drop, List.length_take]; rfl)) ?_; (with_reducible refine (impl_FromContinued.calls k _ _ t158 t162 t163 t164 _ ?side1 ?side2 A10.out).mono ?_); (case side1 => repeat (first | exact (Kd.R_reads' HO161.out).2.2 | (with_reducible refine Kd.C_alloc ?_ _) | (with_reducible refine Kd.C_drewN ?_ _) | (with_reducible refine Kd.C_drew ?_))); (case side2 => exact (Kd.R_reads' HO161.out).2.1); rintro e w14 ⟨rfl, hb⟩; refine ⟨_, rfl, ?_⟩; have n0_ := Aside0.mk (Kd.R_below (by (with_reducible repeat (first | apply Kd.R_alloc | apply Kd.R_drewN | apply Kd.R_drew)); exact HO161.out) hb); have n1_ := Aside0.mk (below_step (by repeat (first | (with_reducible first | exact HB.out | apply below_alloc | apply pw_below_drewN | apply below_drew1) | exact HB.out)) hb); clear HO161; clear HB; have HO161 := n0_; have HB := n1_; clear n0_ n1_; (try clear hb); (try clear hb2); (try clear hk); (try clear hi)))
    (try simp only [Act.put, List.setIfInBounds_toArray, List.set_cons_zero, List.set_cons_succ])
    go_cut [74] (fun v74 wc => ∃ (kq : Nat) (x74_10 : Bool), v74 = .bool x74_10 ∧ Aside0 (laws_FnContinued.j0 kq l1 x74_10 = some r) ∧ Aside0 (kq ≤ k) ∧ Aside0 (Below w.heap.size w wc))
    case first =>
      have H := HC11.out
      clear HC11
      by_cases c15 : t159 = true
      · subst c15
        have H1 : (if t164 = true then (if (wrap64 ((wrap64 ((wrap64 (16 * t154)) + t155)) * t163)) = (wrap64 ((wrap64 ((wrap64 (1 + (wrap64 (16 * t156)))) + t157)) * t162)) then (if t163 < 1 then (laws_FnContinued.j0 k l1 true) else ((laws_b10Gcd.f k t162 t163).bind fun t165 => (laws_FnContinued.j0 k l1 (t165 != 1)))) else (laws_FnContinued.j0 k l1 true)) else (laws_FnContinued.j0 k l1 true)) = some r := by rw [if_pos rfl] at H; exact H
        clear H
        have H := H1
        clear H1
        by_cases c16 : t164 = true
        · subst c16
          have H1 : (if (wrap64 ((wrap64 ((wrap64 (16 * t154)) + t155)) * t163)) = (wrap64 ((wrap64 ((wrap64 (1 + (wrap64 (16 * t156)))) + t157)) * t162)) then (if t163 < 1 then (laws_FnContinued.j0 k l1 true) else ((laws_b10Gcd.f k t162 t163).bind fun t165 => (laws_FnContinued.j0 k l1 (t165 != 1)))) else (laws_FnContinued.j0 k l1 true)) = some r := by rw [if_pos rfl] at H; exact H
          clear H
          have H := H1
          clear H1
          by_cases c17 : (wrap64 ((wrap64 ((wrap64 (16 * t154)) + t155)) * t163)) = (wrap64 ((wrap64 ((wrap64 (1 + (wrap64 (16 * t156)))) + t157)) * t162))
          · rw [if_pos c17] at H
            have c17b0 : ((wrap64 ((wrap64 ((wrap64 (16 * t154)) + t155)) * t163)) == (wrap64 ((wrap64 ((wrap64 (1 + (wrap64 (16 * t156)))) + t157)) * t162))) = true := beq_iff_eq.mpr c17
            have c17b1 : ((wrap64 ((wrap64 ((wrap64 (16 * t154)) + t155)) * t163)) != (wrap64 ((wrap64 ((wrap64 (1 + (wrap64 (16 * t156)))) + t157)) * t162))) = false := bne_eq_false_iff_eq.mpr c17
            clear c17
            (first | rw [c17b0] | (simp only [i64_w, i32_w]; rw [c17b0]) | skip)
            by_cases c18 : t163 < 1
            · rw [if_pos c18] at H
              have c18b0 : decide (t163 < 1) = true := decide_eq_true c18
              clear c18
              have H' := Aside0.mk H
              clear H
              go_wp2
              go_meet
              case rel => exact ⟨_, (true), (by first | rfl | (simp; done) | (simp [*]; done)), H', ⟨by first | omega | exact Nat.le_refl _⟩, ⟨by repeat (first | (with_reducible first | exact HB.out | apply below_alloc | apply pw_below_drewN | apply below_drew1) | exact HB.out)⟩⟩
            · rw [if_neg c18] at H
              have c18b0 : decide (t163 < 1) = false := decide_eq_false c18
              clear c18
              replace H := Option.bind_eq_some_iff.mp H
              obtain ⟨t165, A190, H⟩ := H
              replace H : (laws_FnContinued.j0 k l1 (t165 != 1)) = some r := H
              have A19 := Aside0.mk A190
              clear A190
              have H' := Aside0.mk H
              clear H
              go_wp2_with (first | (go_at_call 7; (with_reducible refine (laws_b10Gcd.calls k t162 t163 t165 _ A19.out).mono ?_); rintro e w' ⟨rfl, ⟨nd, rfl⟩⟩))
              go_meet
              case rel => exact ⟨_, ((t165 != 1)), (by first | rfl | (simp; done) | (simp [*]; done)), H', ⟨by first | omega | exact Nat.le_refl _⟩, ⟨by repeat (first | (with_reducible first | exact HB.out | apply below_alloc | apply pw_below_drewN | apply below_drew1) | exact HB.out)⟩⟩
          · rw [if_neg c17] at H
            have c17b0 : ((wrap64 ((wrap64 ((wrap64 (16 * t154)) + t155)) * t163)) == (wrap64 ((wrap64 ((wrap64 (1 + (wrap64 (16 * t156)))) + t157)) * t162))) = false := beq_eq_false_iff_ne.mpr c17
            have c17b1 : ((wrap64 ((wrap64 ((wrap64 (16 * t154)) + t155)) * t163)) != (wrap64 ((wrap64 ((wrap64 (1 + (wrap64 (16 * t156)))) + t157)) * t162))) = true := bne_iff_ne.mpr c17
            (first | rw [c17b0] | (simp only [i64_w, i32_w]; rw [c17b0]) | skip)
            have H' := Aside0.mk H
            clear H
            go_wp2
            go_meet
            case rel => exact ⟨_, (true), (by first | rfl | (simp; done) | (simp [*]; done)), H', ⟨by first | omega | exact Nat.le_refl _⟩, ⟨by repeat (first | (with_reducible first | exact HB.out | apply below_alloc | apply pw_below_drewN | apply below_drew1) | exact HB.out)⟩⟩
        · replace c16 := Bool.eq_false_iff.mpr c16
          subst c16
          have H1 : (laws_FnContinued.j0 k l1 true) = some r := by rw [if_neg (show ¬ (false = true) by decide)] at H; exact H
          clear H
          have H := H1
          clear H1
          have H' := Aside0.mk H
          clear H
          go_wp2
          go_meet
          case rel => exact ⟨_, (true), (by first | rfl | (simp; done) | (simp [*]; done)), H', ⟨by first | omega | exact Nat.le_refl _⟩, ⟨by repeat (first | (with_reducible first | exact HB.out | apply below_alloc | apply pw_below_drewN | apply below_drew1) | exact HB.out)⟩⟩
      · replace c15 := Bool.eq_false_iff.mpr c15
        subst c15
        have H1 : (laws_FnContinued.j0 k l1 true) = some r := by rw [if_neg (show ¬ (false = true) by decide)] at H; exact H
        clear H
        have H := H1
        clear H1
        have H' := Aside0.mk H
        clear H
        go_wp2
        go_meet
        case rel => exact ⟨_, (true), (by first | rfl | (simp; done) | (simp [*]; done)), H', ⟨by first | omega | exact Nat.le_refl _⟩, ⟨by repeat (first | (with_reducible first | exact HB.out | apply below_alloc | apply pw_below_drewN | apply below_drew1) | exact HB.out)⟩⟩
    case rest =>
      clear HC11
      try clear c1
      try clear p2
      try clear c4
      try clear c5
      try clear c6
      try clear p6
      try clear c13
      try clear c14
      try clear c15
      try clear c16
      try clear c17
      try clear c17b0
      try clear c17b1
      try clear c18
      try clear c18b0
      obtain ⟨kq, x74_10, rfl, HA, HJ10, HB⟩ := hcut
      cases kq with
      | zero => exact absurd HA.out (by simp [laws_FnContinued.j0])
      | succ kj10 =>
        have H := HA.out
        clear HA
        simp only [laws_FnContinued.j0] at H
        by_cases c20 : x74_10 = true
        · subst c20
          have H1 : (some false) = some r := by rw [if_pos rfl] at H; exact H
          clear H
          have H := H1
          clear H1
          obtain rfl := Option.some.inj H
          go_wp2
          go_ret
          exact ⟨by first | rfl | (simp [errW_none, errW_some] <;> rfl) | (simp [*, errW_none, errW_some] <;> rfl), by repeat (first | (with_reducible first | exact HB.out | apply below_alloc | apply pw_below_drewN | apply below_drew1) | exact HB.out)⟩
        · replace c20 := Bool.eq_false_iff.mpr c20
          subst c20
          have H1 : (laws_FnContinued.l0 kj10 l1 (([] : List Int)) 1 1 0) = some r := by rw [if_neg (show ¬ (false = true) by decide)] at H; exact H
          clear H
          have H := H1
          clear H1
          obtain ⟨y166, hy166⟩ : ∃ y_ : List Int, y_ = (([] : List Int)) := ⟨_, rfl⟩
          replace H : (laws_FnContinued.l0 kj10 l1 y166 1 1 0) = some r := by first | (rw [hy166]; with_reducible exact H) | (have H2_ := (Option.bind_some _ _).symm.trans H; rw [hy166]; with_reducible exact H2_) | (have H2_ := (Option.bind_some _ _).symm.trans H; with_reducible exact H2_) | with_reducible exact H | (rw [hy166]; exact H) | exact H
          have Ny166 := Aside0.mk hy166
          clear hy166
          have H' := Aside0.mk H
          clear H
          go_wp2_with (first | ((with_reducible refine gate_dst (N := 75) rfl ?_); (try (refine gate_guard (by rfl) ?_; dsimp only)); refine Kd.R_lit (Kd.int .i64) _ 2 ?hg (N := 75) ?hd (xs := ([] : List Int)) (inner := []) (ok := fun _ => True) (okp := fun _ => True) ?hr ?hp (fun _ hk => hk) trivial (Below.refl _ _) (Nat.le_refl _) (by simp) ?_; (case hd => rfl); (case hg => rfl); (case hr => first | (go_simp; done) | (go_simp; rfl)); (case hp => exact (Reps.none _ _)); intro v167 w21 ho22 hb hg_ hnew_; clear hg_ hnew_; (first | rw [← Ny166.out] at ho22 | (simp only [Int.reduceToNat] at ho22; rw [← Ny166.out] at ho22)); have n0_ := Aside0.mk (Kd.R_lower ho22 (below_size (by repeat (first | (with_reducible first | exact HB.out | apply below_alloc | apply pw_below_drewN | apply below_drew1) | exact HB.out)))); have n1_ := Aside0.mk (below_step (by repeat (first | (with_reducible first | exact HB.out | apply below_alloc | apply pw_below_drewN | apply below_drew1) | exact HB.out)) hb); clear HB; have HO168 := n0_; have HB := n1_; clear n0_ n1_; clear hb ho22))
          go_loopg [12, 13, 14, 15] kj10 (fun kq v12 v13 v14 v15 w' => ∃ (x12_2 : List Int) (x13_2 : Int) (x14_2 : Int) (x15_2 : Int), v13 = .int .i64 x13_2 ∧ v14 = .int .i64 x14_2 ∧ v15 = .int .i64 x15_2 ∧ Aside0 (laws_FnContinued.l0 kq l1 x12_2 x13_2 x14_2 x15_2 = some r) ∧ Aside0 (kq ≤ kj10) ∧ Aside0 (Kd.R (Kd.int .i64) 2 w' w.heap.size (fun _ => True) v12 x12_2) ∧ Aside0 (Below w.heap.size w w'))
          case atStart => exact ⟨(y166), (1), (1), (0), (by first | rfl | (simp; done) | (simp [*]; done)), (by first | rfl | (simp; done) | (simp [*]; done)), (by first | rfl | (simp; done) | (simp [*]; done)), H', ⟨Nat.le_refl _⟩, ⟨by (with_reducible repeat (first | apply Kd.R_alloc | apply Kd.R_drewN | apply Kd.R_drew)); exact HO168.out⟩, ⟨by repeat (first | (with_reducible first | exact HB.out | apply below_alloc | apply pw_below_drewN | apply below_drew1) | exact HB.out)⟩⟩
          case round =>
            clear H'
            try clear c1
            try clear c2
            try clear p2
            try clear c4
            try clear c5
            try clear c6
            try clear p6
            try clear c13
            try clear c14
            try clear c15
            try clear c16
            try clear c17
            try clear c17b0
            try clear c17b1
            try clear c18
            try clear c18b0
            try clear c20
            try clear p2
            try clear p6
            obtain ⟨x12_2, x13_2, x14_2, x15_2, rfl, rfl, rfl, HA, HK2, HO_12, HB⟩ := hrel
            cases gk with
            | zero => exact absurd HA.out (by simp [laws_FnContinued.l0])
            | succ k2 =>
              have H := HA.out
              clear HA
              simp only [laws_FnContinued.l0] at H
              replace H := Option.bind_eq_some_iff.mp H
              obtain ⟨t169, A230, H⟩ := H
              replace H : (if x15_2 < (wrap64 (1 + t169)) then ((laws_b10At.f l1 (wrap64 (x15_2 + 1)) 3).bind fun t170 => (if x12_2.length < 17592186044416 then (laws_FnContinued.l0 k2 l1 (x12_2 ++ [wrap64 (1 + t170)]) x14_2 (wrap64 ((wrap64 ((wrap64 (1 + t170)) * x14_2)) + x13_2)) (wrap64 (x15_2 + 1))) else (none))) else ((impl_StandardWord.f k2 x12_2).bind fun bt174 => ((spec_StandardWord.f k2 x12_2).bind fun bt176 => (if (bt174.2 != bt176.2) = true then (some false) else (if bt174.2 = true then (if (bt174.1.size : Int) = x14_2 then ((impl_IsBalanced.f k2 bt174.1).bind fun t178 => (some t178)) else (some false)) else (some true)))))) = some r := H
              have A23 := Aside0.mk A230
              clear A230
              by_cases c24 : x15_2 < (wrap64 (1 + t169))
              · rw [if_pos c24] at H
                have c24b0 : decide (x15_2 < (wrap64 (1 + t169))) = true := decide_eq_true c24
                clear c24
                replace H := Option.bind_eq_some_iff.mp H
                obtain ⟨t170, A250, H⟩ := H
                replace H : (if x12_2.length < 17592186044416 then (laws_FnContinued.l0 k2 l1 (x12_2 ++ [wrap64 (1 + t170)]) x14_2 (wrap64 ((wrap64 ((wrap64 (1 + t170)) * x14_2)) + x13_2)) (wrap64 (x15_2 + 1))) else (none)) = some r := H
                have A25 := Aside0.mk A250
                clear A250
                by_cases c26 : x12_2.length < 17592186044416
                · rw [if_pos c26] at H
                  have LMc26 := Aside0.mk c26
                  clear c26
                  obtain ⟨y171, hy171⟩ : ∃ y_ : List Int, y_ = (x12_2 ++ [wrap64 (1 + t170)]) := ⟨_, rfl⟩
                  replace H : (laws_FnContinued.l0 k2 l1 y171 x14_2 (wrap64 ((wrap64 ((wrap64 (1 + t170)) * x14_2)) + x13_2)) (wrap64 (x15_2 + 1))) = some r := by first | (rw [hy171]; with_reducible exact H) | (have H2_ := (Option.bind_some _ _).symm.trans H; rw [hy171]; with_reducible exact H2_) | (have H2_ := (Option.bind_some _ _).symm.trans H; with_reducible exact H2_) | with_reducible exact H | (rw [hy171]; exact H) | exact H
                  have Ny171 := Aside0.mk hy171
                  clear hy171
                  have H' := Aside0.mk H
                  clear H
                  go_wp2_with (first | ((with_reducible refine gate_callee (f := 6) rfl ?_); refine goesL_ (some 78) rfl rfl Tryd.func6 (by kernel_rfl) rfl #[.slice A1 l1.length c1, .int .i64 0, .int .i64 4] rfl (by (try simp only [List.map_toArray, List.map_cons, List.map_nil]); first | done | rfl | (simp only [List.length_drop, List.length_take]; rfl)) ?_; (with_reducible refine (laws_b10At.calls _ _ l1 0 4 t169 _ ?side1 ?side2 A23.out).mono ?_); (case side1 => repeat (first | exact (Kd.C_below HR1.out HB.out) | (with_reducible refine Kd.C_alloc ?_ _) | (with_reducible refine Kd.C_drewN ?_ _) | (with_reducible refine Kd.C_drew ?_))); (case side2 => exact HC1.out); rintro e w' ⟨rfl, ⟨nd, rfl⟩⟩; refine ⟨_, rfl, ?_⟩) | ((with_reducible refine gate_callee (f := 6) rfl ?_); refine goesL_ (some 86) rfl rfl Tryd.func6 (by kernel_rfl) rfl #[.slice A1 l1.length c1, .int .i64 (wrap64 (x15_2 + 1)), .int .i64 3] rfl (by (try simp only [List.map_toArray, List.map_cons, List.map_nil]); first | done | rfl | (simp only [List.length_drop, List.length_take]; rfl)) ?_; (with_reducible refine (laws_b10At.calls _ _ l1 (wrap64 (x15_2 + 1)) 3 t170 _ ?side1 ?side2 A25.out).mono ?_); (case side1 => repeat (first | exact (Kd.C_below HR1.out (by repeat (first | (with_reducible first | exact HB.out | apply below_alloc | apply pw_below_drewN | apply below_drew1) | exact HB.out))) | (with_reducible refine Kd.C_alloc ?_ _) | (with_reducible refine Kd.C_drewN ?_ _) | (with_reducible refine Kd.C_drew ?_))); (case side2 => exact HC1.out); rintro e w' ⟨rfl, ⟨nd, rfl⟩⟩; refine ⟨_, rfl, ?_⟩) | ((with_reducible refine gate_builtin (b := .append) (xs := #[.tmp 88, .tmp 90]) rfl ?_); (try (refine gate_guard (by rfl) ?_; dsimp only)); at_builtin; refine Kd.R_append (Kd.int .i64) (w0 := w) w.heap.size rfl (.tmp 88) (.tmp 90) 31 2 (.int .i64 0) 8 rfl Tryd.underlying31 info2 rfl (by decide) (by omega) u12 x12_2 (wrap64 (1 + t170)) [.int .i64 (wrap64 (1 + t170))] (fun _ => True) (fun _ => False) rfl rfl ?aP (fun _ hk => hk.elim) ?aF ?aO ?aB ?aS ?aL ?_; (case aP => exact rfl); (case aB => exact (by repeat (first | (with_reducible first | exact HB.out | apply below_alloc | apply pw_below_drewN | apply below_drew1) | exact HB.out))); (case aF => exact (fun _ _ => trivial)); (case aO => exact (by (with_reducible repeat (first | apply Kd.R_alloc | apply Kd.R_drewN | apply Kd.R_drew)); exact HO_12.out)); (case aS => exact (below_size (by repeat (first | (with_reducible first | exact HB.out | apply below_alloc | apply pw_below_drewN | apply below_drew1) | exact HB.out)))); (case aL => have := LMc26.out; omega); intro v172 w27 ho hb hg hat; rw [← Ny171.out] at ho; have n0_ := Aside0.mk (hb); have n1_ := Aside0.mk (ho); clear HB; clear HO_12; have HB := n0_; have HO173 := n1_; clear n0_ n1_; clear ho hb hg hat))
                  go_roundg k2
                  case measure => have := HJ10.out; have := HK2.out; omega
                  case rel => exact ⟨(y171), (x14_2), (wrap64 ((wrap64 ((wrap64 (1 + t170)) * x14_2)) + x13_2)), (wrap64 (x15_2 + 1)), (by first | rfl | (simp; done) | (simp [*]; done)), (by first | rfl | (simp; done) | (simp [*]; done)), (by first | rfl | (simp; done) | (simp [*]; done)), H', ⟨by have := HJ10.out; have := HK2.out; omega⟩, ⟨by (with_reducible repeat (first | apply Kd.R_alloc | apply Kd.R_drewN | apply Kd.R_drew)); exact HO173.out⟩, ⟨by repeat (first | (with_reducible first | exact HB.out | apply below_alloc | apply pw_below_drewN | apply below_drew1) | exact HB.out)⟩⟩
                · rw [if_neg c26] at H
                  exact absurd H (by simp)
              · rw [if_neg c24] at H
                have c24b0 : decide (x15_2 < (wrap64 (1 + t169))) = false := decide_eq_false c24
                clear c24
                replace H := Option.bind_eq_some_iff.mp H
                obtain ⟨⟨t174, t175⟩, A280, H⟩ := H
                replace H : ((spec_StandardWord.f k2 x12_2).bind fun bt176 => (if (t175 != bt176.2) = true then (some false) else (if t175 = true then (if (t174.size : Int) = x14_2 then ((impl_IsBalanced.f k2 t174).bind fun t178 => (some t178)) else (some false)) else (some true)))) = some r := H
                have A28 := Aside0.mk A280
                clear A280
                replace H := Option.bind_eq_some_iff.mp H
                obtain ⟨⟨t176, t177⟩, A290, H⟩ := H
                replace H : (if (t175 != t177) = true then (some false) else (if t175 = true then (if (t174.size : Int) = x14_2 then ((impl_IsBalanced.f k2 t174).bind fun t178 => (some t178)) else (some false)) else (some true))) = some r := H
                have A29 := Aside0.mk A290
                clear A290
                by_cases c30 : (t175 != t177) = true
                · rw [if_pos c30] at H
                  have c30b0 : (t175 != t177) = true := c30
                  (try (have c30b1 : decide (t175 = t177) = false := by simpa using c30))
                  (try (have c30b2 : (t175 == t177) = false := by simpa using c30))
                  (try (have c30b3 : ¬ (t175 = t177) := by simpa using c30))
                  clear c30
                  obtain rfl := Option.some.inj H
                  go_wp2_with (first | ((with_reducible refine gate_callee (f := 6) rfl ?_); refine goesL_ (some 78) rfl rfl Tryd.func6 (by kernel_rfl) rfl #[.slice A1 l1.length c1, .int .i64 0, .int .i64 4] rfl (by (try simp only [List.map_toArray, List.map_cons, List.map_nil]); first | done | rfl | (simp only [List.length_drop, List.length_take]; rfl)) ?_; (with_reducible refine (laws_b10At.calls _ _ l1 0 4 t169 _ ?side1 ?side2 A23.out).mono ?_); (case side1 => repeat (first | exact (Kd.C_below HR1.out HB.out) | (with_reducible refine Kd.C_alloc ?_ _) | (with_reducible refine Kd.C_drewN ?_ _) | (with_reducible refine Kd.C_drew ?_))); (case side2 => exact HC1.out); rintro e w' ⟨rfl, ⟨nd, rfl⟩⟩; refine ⟨_, rfl, ?_⟩; obtain ⟨Ao31, co31, eo31⟩ := Kd.R_slice HO_12.out; subst eo31) | ((with_reducible refine gate_callee (f := 15) rfl ?_); refine goesL_ (some 101) rfl rfl Tryd.func15 (by kernel_rfl) rfl #[.slice Ao31 x12_2.length co31] rfl (by (try simp only [List.map_toArray, List.map_cons, List.map_nil]); first | done | rfl | (simp only [List.length_drop, List.length_take]; rfl)) ?_; (with_reducible refine (impl_StandardWord.calls k2 _ _ x12_2 t174 t175 _ ?side1 ?side2 A28.out).mono ?_); (case side1 => repeat (first | exact (Kd.R_reads' HO_12.out).2.2 | (with_reducible refine Kd.C_alloc ?_ _) | (with_reducible refine Kd.C_drewN ?_ _) | (with_reducible refine Kd.C_drew ?_))); (case side2 => exact (Kd.R_reads' HO_12.out).2.1); rintro e w32 ⟨rfl, hb⟩; refine ⟨_, rfl, ?_⟩; have n0_ := Aside0.mk (Kd.R_below (by (with_reducible repeat (first | apply Kd.R_alloc | apply Kd.R_drewN | apply Kd.R_drew)); exact HO_12.out) hb); have n1_ := Aside0.mk (below_step (by repeat (first | (with_reducible first | exact HB.out | apply below_alloc | apply pw_below_drewN | apply below_drew1) | exact HB.out)) hb); clear HO_12; clear HB; have HO_12 := n0_; have HB := n1_; clear n0_ n1_; (try clear hb); (try clear hb2); (try clear hk); (try clear hi)) | ((with_reducible refine gate_callee (f := 16) rfl ?_); refine goesL_ (some 106) rfl rfl Tryd.func16 (by kernel_rfl) rfl #[.slice Ao31 x12_2.length co31] rfl (by (try simp only [List.map_toArray, List.map_cons, List.map_nil]); first | done | rfl | (simp only [List.length_drop, List.length_take]; rfl)) ?_; (with_reducible refine (spec_StandardWord.calls k2 _ _ x12_2 t176 t177 _ ?side1 ?side2 A29.out).mono ?_); (case side1 => repeat (first | exact (Kd.R_reads' HO_12.out).2.2 | (with_reducible refine Kd.C_alloc ?_ _) | (with_reducible refine Kd.C_drewN ?_ _) | (with_reducible refine Kd.C_drew ?_))); (case side2 => exact (Kd.R_reads' HO_12.out).2.1); rintro e w' ⟨rfl, ⟨nd, rfl⟩⟩; refine ⟨_, rfl, ?_⟩))
                  go_ret
                  exact ⟨by first | rfl | (simp [errW_none, errW_some] <;> rfl) | (simp [*, errW_none, errW_some] <;> rfl), by repeat (first | (with_reducible first | exact HB.out | apply below_alloc | apply pw_below_drewN | apply below_drew1) | exact HB.out)⟩
                · rw [if_neg c30] at H
                  have c30b0 : (t175 != t177) = false := by simpa using c30
                  (try (have c30b1 : decide (t175 = t177) = true := by simpa using c30))
                  (try (have c30b2 : (t175 == t177) = true := by simpa using c30))
                  clear c30
                  by_cases c33 : t175 = true
                  · subst c33
                    have H1 : (if (t174.size : Int) = x14_2 then ((impl_IsBalanced.f k2 t174).bind fun t178 => (some t178)) else (some false)) = some r := by rw [if_pos rfl] at H; exact H
                    clear H
                    have H := H1
                    clear H1
                    by_cases c34 : (t174.size : Int) = x14_2
                    · rw [if_pos c34] at H
                      have c34b0 : ((t174.size : Int) == x14_2) = true := beq_iff_eq.mpr c34
                      have c34b1 : ((t174.size : Int) != x14_2) = false := bne_eq_false_iff_eq.mpr c34
                      clear c34
                      replace H := Option.bind_eq_some_iff.mp H
                      obtain ⟨t178, A350, H⟩ := H
                      replace H : (some t178) = some r := H
                      have A35 := Aside0.mk A350
                      clear A350
                      obtain rfl := Option.some.inj H
                      go_wp2_with (first | ((with_reducible refine gate_callee (f := 6) rfl ?_); refine goesL_ (some 78) rfl rfl Tryd.func6 (by kernel_rfl) rfl #[.slice A1 l1.length c1, .int .i64 0, .int .i64 4] rfl (by (try simp only [List.map_toArray, List.map_cons, List.map_nil]); first | done | rfl | (simp only [List.length_drop, List.length_take]; rfl)) ?_; (with_reducible refine (laws_b10At.calls _ _ l1 0 4 t169 _ ?side1 ?side2 A23.out).mono ?_); (case side1 => repeat (first | exact (Kd.C_below HR1.out HB.out) | (with_reducible refine Kd.C_alloc ?_ _) | (with_reducible refine Kd.C_drewN ?_ _) | (with_reducible refine Kd.C_drew ?_))); (case side2 => exact HC1.out); rintro e w' ⟨rfl, ⟨nd, rfl⟩⟩; refine ⟨_, rfl, ?_⟩; obtain ⟨Ao36, co36, eo36⟩ := Kd.R_slice HO_12.out; subst eo36) | ((with_reducible refine gate_callee (f := 15) rfl ?_); refine goesL_ (some 101) rfl rfl Tryd.func15 (by kernel_rfl) rfl #[.slice Ao36 x12_2.length co36] rfl (by (try simp only [List.map_toArray, List.map_cons, List.map_nil]); first | done | rfl | (simp only [List.length_drop, List.length_take]; rfl)) ?_; (with_reducible refine (impl_StandardWord.calls k2 _ _ x12_2 t174 true _ ?side1 ?side2 A28.out).mono ?_); (case side1 => repeat (first | exact (Kd.R_reads' HO_12.out).2.2 | (with_reducible refine Kd.C_alloc ?_ _) | (with_reducible refine Kd.C_drewN ?_ _) | (with_reducible refine Kd.C_drew ?_))); (case side2 => exact (Kd.R_reads' HO_12.out).2.1); rintro e w37 ⟨rfl, hb⟩; refine ⟨_, rfl, ?_⟩; have n0_ := Aside0.mk (Kd.R_below (by (with_reducible repeat (first | apply Kd.R_alloc | apply Kd.R_drewN | apply Kd.R_drew)); exact HO_12.out) hb); have n1_ := Aside0.mk (below_step (by repeat (first | (with_reducible first | exact HB.out | apply below_alloc | apply pw_below_drewN | apply below_drew1) | exact HB.out)) hb); clear HO_12; clear HB; have HO_12 := n0_; have HB := n1_; clear n0_ n1_; (try clear hb); (try clear hb2); (try clear hk); (try clear hi)) | ((with_reducible refine gate_callee (f := 16) rfl ?_); refine goesL_ (some 106) rfl rfl Tryd.func16 (by kernel_rfl) rfl #[.slice Ao36 x12_2.length co36] rfl (by (try simp only [List.map_toArray, List.map_cons, List.map_nil]); first | done | rfl | (simp only [List.length_drop, List.length_take]; rfl)) ?_; (with_reducible refine (spec_StandardWord.calls k2 _ _ x12_2 t176 t177 _ ?side1 ?side2 A29.out).mono ?_); (case side1 => repeat (first | exact (Kd.R_reads' HO_12.out).2.2 | (with_reducible refine Kd.C_alloc ?_ _) | (with_reducible refine Kd.C_drewN ?_ _) | (with_reducible refine Kd.C_drew ?_))); (case side2 => exact (Kd.R_reads' HO_12.out).2.1); rintro e w' ⟨rfl, ⟨nd, rfl⟩⟩; refine ⟨_, rfl, ?_⟩) | (go_at_call 12; (with_reducible refine (impl_IsBalanced.calls k2 t174 t178 _ A35.out).mono ?_); rintro e w38 ⟨rfl, hb⟩; have n0_ := Aside0.mk (Kd.R_below (by (with_reducible repeat (first | apply Kd.R_alloc | apply Kd.R_drewN | apply Kd.R_drew)); exact HO_12.out) hb); have n1_ := Aside0.mk (below_step (by repeat (first | (with_reducible first | exact HB.out | apply below_alloc | apply pw_below_drewN | apply below_drew1) | exact HB.out)) hb); clear HO_12; clear HB; have HO_12 := n0_; have HB := n1_; clear n0_ n1_; (try clear hb); (try clear hb2); (try clear hk); (try clear hi)))
                      go_ret
                      exact ⟨by first | rfl | (simp [errW_none, errW_some] <;> rfl) | (simp [*, errW_none, errW_some] <;> rfl), by repeat (first | (with_reducible first | exact HB.out | apply below_alloc | apply pw_below_drewN | apply below_drew1) | exact HB.out)⟩
                    · rw [if_neg c34] at H
                      have c34b0 : ((t174.size : Int) == x14_2) = false := beq_eq_false_iff_ne.mpr c34
                      have c34b1 : ((t174.size : Int) != x14_2) = true := bne_iff_ne.mpr c34
                      obtain rfl := Option.some.inj H
                      go_wp2_with (first | ((with_reducible refine gate_callee (f := 6) rfl ?_); refine goesL_ (some 78) rfl rfl Tryd.func6 (by kernel_rfl) rfl #[.slice A1 l1.length c1, .int .i64 0, .int .i64 4] rfl (by (try simp only [List.map_toArray, List.map_cons, List.map_nil]); first | done | rfl | (simp only [List.length_drop, List.length_take]; rfl)) ?_; (with_reducible refine (laws_b10At.calls _ _ l1 0 4 t169 _ ?side1 ?side2 A23.out).mono ?_); (case side1 => repeat (first | exact (Kd.C_below HR1.out HB.out) | (with_reducible refine Kd.C_alloc ?_ _) | (with_reducible refine Kd.C_drewN ?_ _) | (with_reducible refine Kd.C_drew ?_))); (case side2 => exact HC1.out); rintro e w' ⟨rfl, ⟨nd, rfl⟩⟩; refine ⟨_, rfl, ?_⟩; obtain ⟨Ao39, co39, eo39⟩ := Kd.R_slice HO_12.out; subst eo39) | ((with_reducible refine gate_callee (f := 15) rfl ?_); refine goesL_ (some 101) rfl rfl Tryd.func15 (by kernel_rfl) rfl #[.slice Ao39 x12_2.length co39] rfl (by (try simp only [List.map_toArray, List.map_cons, List.map_nil]); first | done | rfl | (simp only [List.length_drop, List.length_take]; rfl)) ?_; (with_reducible refine (impl_StandardWord.calls k2 _ _ x12_2 t174 true _ ?side1 ?side2 A28.out).mono ?_); (case side1 => repeat (first | exact (Kd.R_reads' HO_12.out).2.2 | (with_reducible refine Kd.C_alloc ?_ _) | (with_reducible refine Kd.C_drewN ?_ _) | (with_reducible refine Kd.C_drew ?_))); (case side2 => exact (Kd.R_reads' HO_12.out).2.1); rintro e w40 ⟨rfl, hb⟩; refine ⟨_, rfl, ?_⟩; have n0_ := Aside0.mk (Kd.R_below (by (with_reducible repeat (first | apply Kd.R_alloc | apply Kd.R_drewN | apply Kd.R_drew)); exact HO_12.out) hb); have n1_ := Aside0.mk (below_step (by repeat (first | (with_reducible first | exact HB.out | apply below_alloc | apply pw_below_drewN | apply below_drew1) | exact HB.out)) hb); clear HO_12; clear HB; have HO_12 := n0_; have HB := n1_; clear n0_ n1_; (try clear hb); (try clear hb2); (try clear hk); (try clear hi)) | ((with_reducible refine gate_callee (f := 16) rfl ?_); refine goesL_ (some 106) rfl rfl Tryd.func16 (by kernel_rfl) rfl #[.slice Ao39 x12_2.length co39] rfl (by (try simp only [List.map_toArray, List.map_cons, List.map_nil]); first | done | rfl | (simp only [List.length_drop, List.length_take]; rfl)) ?_; (with_reducible refine (spec_StandardWord.calls k2 _ _ x12_2 t176 t177 _ ?side1 ?side2 A29.out).mono ?_); (case side1 => repeat (first | exact (Kd.R_reads' HO_12.out).2.2 | (with_reducible refine Kd.C_alloc ?_ _) | (with_reducible refine Kd.C_drewN ?_ _) | (with_reducible refine Kd.C_drew ?_))); (case side2 => exact (Kd.R_reads' HO_12.out).2.1); rintro e w' ⟨rfl, ⟨nd, rfl⟩⟩; refine ⟨_, rfl, ?_⟩))
                      go_ret
                      exact ⟨by first | rfl | (simp [errW_none, errW_some] <;> rfl) | (simp [*, errW_none, errW_some] <;> rfl), by repeat (first | (with_reducible first | exact HB.out | apply below_alloc | apply pw_below_drewN | apply below_drew1) | exact HB.out)⟩
                  · replace c33 := Bool.eq_false_iff.mpr c33
                    subst c33
                    have H1 : (some true) = some r := by rw [if_neg (show ¬ (false = true) by decide)] at H; exact H
                    clear H
                    have H := H1
                    clear H1
                    obtain rfl := Option.some.inj H
                    go_wp2_with (first | ((with_reducible refine gate_callee (f := 6) rfl ?_); refine goesL_ (some 78) rfl rfl Tryd.func6 (by kernel_rfl) rfl #[.slice A1 l1.length c1, .int .i64 0, .int .i64 4] rfl (by (try simp only [List.map_toArray, List.map_cons, List.map_nil]); first | done | rfl | (simp only [List.length_drop, List.length_take]; rfl)) ?_; (with_reducible refine (laws_b10At.calls _ _ l1 0 4 t169 _ ?side1 ?side2 A23.out).mono ?_); (case side1 => repeat (first | exact (Kd.C_below HR1.out HB.out) | (with_reducible refine Kd.C_alloc ?_ _) | (with_reducible refine Kd.C_drewN ?_ _) | (with_reducible refine Kd.C_drew ?_))); (case side2 => exact HC1.out); rintro e w' ⟨rfl, ⟨nd, rfl⟩⟩; refine ⟨_, rfl, ?_⟩; obtain ⟨Ao41, co41, eo41⟩ := Kd.R_slice HO_12.out; subst eo41) | ((with_reducible refine gate_callee (f := 15) rfl ?_); refine goesL_ (some 101) rfl rfl Tryd.func15 (by kernel_rfl) rfl #[.slice Ao41 x12_2.length co41] rfl (by (try simp only [List.map_toArray, List.map_cons, List.map_nil]); first | done | rfl | (simp only [List.length_drop, List.length_take]; rfl)) ?_; (with_reducible refine (impl_StandardWord.calls k2 _ _ x12_2 t174 false _ ?side1 ?side2 A28.out).mono ?_); (case side1 => repeat (first | exact (Kd.R_reads' HO_12.out).2.2 | (with_reducible refine Kd.C_alloc ?_ _) | (with_reducible refine Kd.C_drewN ?_ _) | (with_reducible refine Kd.C_drew ?_))); (case side2 => exact (Kd.R_reads' HO_12.out).2.1); rintro e w42 ⟨rfl, hb⟩; refine ⟨_, rfl, ?_⟩; have n0_ := Aside0.mk (Kd.R_below (by (with_reducible repeat (first | apply Kd.R_alloc | apply Kd.R_drewN | apply Kd.R_drew)); exact HO_12.out) hb); have n1_ := Aside0.mk (below_step (by repeat (first | (with_reducible first | exact HB.out | apply below_alloc | apply pw_below_drewN | apply below_drew1) | exact HB.out)) hb); clear HO_12; clear HB; have HO_12 := n0_; have HB := n1_; clear n0_ n1_; (try clear hb); (try clear hb2); (try clear hk); (try clear hi)) | ((with_reducible refine gate_callee (f := 16) rfl ?_); refine goesL_ (some 106) rfl rfl Tryd.func16 (by kernel_rfl) rfl #[.slice Ao41 x12_2.length co41] rfl (by (try simp only [List.map_toArray, List.map_cons, List.map_nil]); first | done | rfl | (simp only [List.length_drop, List.length_take]; rfl)) ?_; (with_reducible refine (spec_StandardWord.calls k2 _ _ x12_2 t176 t177 _ ?side1 ?side2 A29.out).mono ?_); (case side1 => repeat (first | exact (Kd.R_reads' HO_12.out).2.2 | (with_reducible refine Kd.C_alloc ?_ _) | (with_reducible refine Kd.C_drewN ?_ _) | (with_reducible refine Kd.C_drew ?_))); (case side2 => exact (Kd.R_reads' HO_12.out).2.1); rintro e w' ⟨rfl, ⟨nd, rfl⟩⟩; refine ⟨_, rfl, ?_⟩))
                    go_ret
                    exact ⟨by first | rfl | (simp [errW_none, errW_some] <;> rfl) | (simp [*, errW_none, errW_some] <;> rfl), by repeat (first | (with_reducible first | exact HB.out | apply below_alloc | apply pw_below_drewN | apply below_drew1) | exact HB.out)⟩

/-- THE ONE PURE STATEMENT of laws_FnContinued: yours. -/
def laws_FnContinued.Pure : Prop := ∀ (l0 : List Int) (l1 : List Int), l0.length ≤ maxLen → l0.length * 1 ≤ 140737488351232 → (∀ x ∈ l0, (Lit.int .u8 x).wf = true) → l1.length ≤ maxLen → l1.length * 1 ≤ 140737488351232 → (∀ x ∈ l1, (Lit.int .u8 x).wf = true) → ∃ k, laws_FnContinued.f k l0 l1 = some true
theorem laws_FnContinued.walk (P : laws_FnContinued.Pure) (a0 : Option Addr) (len0 cap0 : Nat) (z0 : List Int) (a1 : Option Addr) (len1 cap1 : Nat) (z1 : List Int) (w : World) (w0 : (a0 = none ∧ len0 = 0 ∧ cap0 = 0 ∧ z0 = []) ∨ ∃ x, a0 = some x ∧ len0 ≤ cap0 ∧ cap0 ≤ maxLen ∧ z0.length = cap0 ∧ (∀ i, i < z0.length → w.cell? (x.add i) = some (.int .u8 (z0.getD i 0))) ∧ ∀ n ∈ z0, (Lit.int .u8 n).wf = true) (y0 : len0 * 1 ≤ 140737488351232) (w1 : (a1 = none ∧ len1 = 0 ∧ cap1 = 0 ∧ z1 = []) ∨ ∃ x, a1 = some x ∧ len1 ≤ cap1 ∧ cap1 ≤ maxLen ∧ z1.length = cap1 ∧ (∀ i, i < z1.length → w.cell? (x.add i) = some (.int .u8 (z1.getD i 0))) ∧ ∀ n ∈ z1, (Lit.int .u8 n).wf = true) (y1 : len1 * 1 ≤ 140737488351232) :
    Calls Tryd.prog 4 #[.slice a0 len0 cap0, .slice a1 len1 cap1] w fun e w' => e = .returned (.bool true) ∧ Below w.heap.size w w' := by
  obtain ⟨l0, rfl, hr0, hm0, hw0, hc0⟩ := ReadsInt.ofRowC w0
  obtain ⟨l1, rfl, hr1, hm1, hw1, hc1⟩ := ReadsInt.ofRowC w1
  obtain ⟨k, h⟩ := P l0 l1 hm0 y0 hw0 hm1 y1 hw1
  refine (laws_FnContinued.calls k _ _ l0 _ _ l1 true w (Kd.C_of_reads (d := (0 : Int)) (h1 := fun _ => rfl) hr0) hc0 (Kd.C_of_reads (d := (0 : Int)) (h1 := fun _ => rfl) hr1) hc1 h).mono ?_
  rintro e w' ⟨rfl, hd⟩
  exact ⟨rfl, hd⟩

end Go.Proofs.YtkcdmmegdhiabaaDoor.PFnContinued
