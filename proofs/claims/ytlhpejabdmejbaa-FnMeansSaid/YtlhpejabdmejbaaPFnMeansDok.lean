/- One region of the drawn mixtures: what is known after any of its events, whatever their order. No condition. -/
import Derived.Test.YtlhpejabdmejbaaPFnMeansx0
namespace Go.Proofs.Ytlhpejabdmejbaa.PFnMeans
open Go.RowKit Go.Proofs.YtlhpejabdmejbaaW.PrintWords Go.Proofs.YtlhpejabdmejbaaW.PrintLast Go.Proofs.YtlhpejabdmejbaaW.PrintMore
set_option linter.unusedVariables false
abbrev d0 : Value := .slice none 0 0
abbrev dI : Kd Int := Kd.int .i64
abbrev dL : Kd (List Int) := Kd.slice 2 (Kd.int .i64)
def okN (n : Nat) (O : Nat → Prop) (b2 b4 b5 b14 : Bool) (v2 v4 v5 : Value) (g : Nat) (k : Nat) : Prop :=
  (n ≤ k ∨ (k < n ∧ O k)) ∧ (b2 = true → b5 = false → some k ≠ v2.ownBlock) ∧ (b4 = true → some k ≠ v4.ownBlock) ∧ (b5 = true → some k ≠ v5.ownBlock) ∧ (b14 = true → k ≠ g)
def Ap (u v : Value) : Prop := ∀ k, u.ownBlock = some k → v.ownBlock = some k → False
structure RS (W : World) (O : Nat → Prop) (x2 x4 x5 : List Int) (x6 x9 x11 x12 : List (List Int)) (b2 b4 b5 b6 b9 b11 b12 b14 : Bool) (v2 v4 v5 v6 v9 v11 v12 : Value) (g : Nat) (w : World) : Prop where
  old : Below W.heap.size W w
  a2 : b2 = true → b5 = false → dI.R 2 w W.heap.size (fun k => some k = v2.ownBlock) v2 x2
  a4 : b4 = true → dI.R 2 w W.heap.size (fun k => some k = v4.ownBlock) v4 x4
  s24 : b2 = true → b5 = false → b4 = true → Ap v2 v4
  a5 : b5 = true → dI.R 2 w W.heap.size (fun k => some k = v5.ownBlock) v5 x5
  s45 : b5 = true → b4 = true → Ap v5 v4
  n6 : b6 = true → b9 = false → dL.N 22 w W.heap.size (okN W.heap.size O b2 b4 b5 b14 v2 v4 v5 g) v6 x6
  n9 : b9 = true → b12 = false → dL.N 22 w W.heap.size (okN W.heap.size O b2 b4 b5 b14 v2 v4 v5 g) v9 x9
  n11 : b11 = true → dL.N 22 w W.heap.size (fun k => okN W.heap.size O b2 b4 b5 b14 v2 v4 v5 g k ∧ (b6 = true → b9 = false → some k ≠ v6.ownBlock) ∧ (b9 = true → b12 = false → some k ≠ v9.ownBlock) ∧ (b12 = true → some k ≠ v12.ownBlock)) v11 x11
  n12 : b12 = true → dL.N 22 w W.heap.size (okN W.heap.size O b2 b4 b5 b14 v2 v4 v5 g) v12 x12
  c14 : b14 = true → w.heap[g]? = some (.cells #[.slice none 0 0, .slice none 0 0] 29 (0, 0)) ∧ W.heap.size ≤ g
section
variable {W w w' : World} {O ok : Nat → Prop} {x2 x4 x5 : List Int} {x6 x9 x11 x12 : List (List Int)} {b2 b4 b5 b6 b9 b11 b12 b14 : Bool} {v v2 v4 v5 v6 v9 v11 v12 : Value} {g g' : Nat}
theorem RS.base (W : World) (O : Nat → Prop) (x2 x4 x5 : List Int) (x6 x9 x11 x12 : List (List Int)) (v : Value) (g : Nat) : RS W O x2 x4 x5 x6 x9 x11 x12 false false false false false false false false v v v v v v v g W :=
  ⟨Below.refl _ _, nofun, nofun, nofun, nofun, nofun, nofun, nofun, nofun, nofun, nofun⟩
theorem below_of_grown {w w' : World} (hg : w.grownBy w' none) : Below w.heap.size w w' := by
  obtain ⟨h1, h2, h3, h4, h5⟩ := hg
  exact ⟨h1, h2, h3, h4, fun k hk => h5 k hk (by simp)⟩
theorem Ap.mk1 (h1 : ∀ k, v2.ownBlock = some k → w.heap.size ≤ k) (h2 : ∀ k, v4.ownBlock = some k → k < w.heap.size) : Ap v2 v4 := fun k a b => by have := h1 k a; have := h2 k b; omega
theorem Ap.mk2 (h1 : ∀ k, v4.ownBlock = some k → w.heap.size ≤ k) (h2 : ∀ k, v2.ownBlock = some k → k < w.heap.size) : Ap v2 v4 := fun k a b => by have := h1 k b; have := h2 k a; omega
theorem Ap.after (h : Ap v2 v4) (hat : v.ownBlock = v2.ownBlock ∨ ∃ b, v.ownBlock = some b ∧ w.heap.size ≤ b) (h2 : ∀ k, v4.ownBlock = some k → k < w.heap.size) : Ap v v4 := by
  intro k a b
  rcases hat with e | ⟨c, e, hc⟩
  · exact h k (e ▸ a) b
  · have := h2 k b
    rw [e] at a
    injection a with a
    omega
abbrev RSx (W : World) (O : Nat → Prop) (x2 x4 x5 : List Int) (x6 x9 x11 x12 : List (List Int)) := RS W O x2 x4 x5 x6 x9 x11 x12
theorem fresh_ne (h : ∀ k, v.ownBlock = some k → k < w.heap.size) {k : Nat} (hk : w.heap.size ≤ k) : some k ≠ v.ownBlock := fun e => by have := h k e.symm; omega
/-- What is made new is none of what is there. -/
theorem RS.okNew (h : RS W O x2 x4 x5 x6 x9 x11 x12 b2 b4 b5 b6 b9 b11 b12 b14 v2 v4 v5 v6 v9 v11 v12 g w) {k : Nat} (hk : w.heap.size ≤ k) : okN W.heap.size O b2 b4 b5 b14 v2 v4 v5 g k :=
  ⟨.inl (Nat.le_trans h.old.size hk), fun e e' => fresh_ne (Kd.R_lt (h.a2 e e')) hk, fun e => fresh_ne (Kd.R_lt (h.a4 e)) hk, fun e => fresh_ne (Kd.R_lt (h.a5 e)) hk, fun e => by have := blk_lt (h.c14 e).1; omega⟩
theorem base_ne (h : ∀ k, v.ownBlock = some k → W.heap.size ≤ k) {k : Nat} (hk : k < W.heap.size) : some k ≠ v.ownBlock := fun e => by have := h k e.symm; omega
theorem RS.okOld (h : RS W O x2 x4 x5 x6 x9 x11 x12 b2 b4 b5 b6 b9 b11 b12 b14 v2 v4 v5 v6 v9 v11 v12 g w) {k : Nat} (hk : k < W.heap.size ∧ O k) : okN W.heap.size O b2 b4 b5 b14 v2 v4 v5 g k :=
  ⟨.inr hk, fun e e' => base_ne (Kd.R_base (h.a2 e e')) hk.1, fun e => base_ne (Kd.R_base (h.a4 e)) hk.1, fun e => base_ne (Kd.R_base (h.a5 e)) hk.1, fun e => by have := (h.c14 e).2; omega⟩
theorem R_none {d : Kd Int} {e base : Nat} {xs : List Int} (h : d.R e w base ok v xs) (hg : w.grownBy w' none) : d.R e w' base ok v xs := Kd.R_grown h hg (fun _ _ => by simp)
theorem N_none {d : Kd (List Int)} {e base : Nat} {xs : List (List Int)} (h : d.N e w base ok v xs) (hg : w.grownBy w' none) : d.N e w' base ok v xs := Kd.N_grown h hg (fun _ _ => by simp)
theorem RS.e2 (h : RS W O x2 x4 x5 x6 x9 x11 x12 false b4 false b6 b9 b11 b12 b14 v2 v4 v5 v6 v9 v11 v12 g w) (ho : dI.R 2 w' w.heap.size ok v x2) (hb : Below w.heap.size w w') :
    RS W O x2 x4 x5 x6 x9 x11 x12 true b4 false b6 b9 b11 b12 b14 v v4 v5 v6 v9 v11 v12 g w' := by
  have hg := grown_of_below hb none
  have hn := Kd.R_base ho
  refine ⟨below_step h.old hb, fun _ _ => Kd.R_tight rfl (Kd.R_lower ho h.old.size), fun e => R_none (h.a4 e) hg, fun _ _ e => Ap.mk1 hn (Kd.R_lt (h.a4 e)), nofun, nofun, fun e e' => ?_, fun e e' => ?_, fun e => ?_, fun e => ?_, fun e => ⟨blk_below (h.c14 e).1 hb, (h.c14 e).2⟩⟩
  · exact Kd.N_mono (Kd.N_elder' (h.n6 e e') hn hb) (fun k hk => ⟨hk.1.1, fun _ _ => hk.2, hk.1.2.2⟩)
  · exact Kd.N_mono (Kd.N_elder' (h.n9 e e') hn hb) (fun k hk => ⟨hk.1.1, fun _ _ => hk.2, hk.1.2.2⟩)
  · exact Kd.N_mono (Kd.N_elder' (h.n11 e) hn hb) (fun k hk => ⟨⟨hk.1.1.1, fun _ _ => hk.2, hk.1.1.2.2⟩, hk.1.2⟩)
  · exact Kd.N_mono (Kd.N_elder' (h.n12 e) hn hb) (fun k hk => ⟨hk.1.1, fun _ _ => hk.2, hk.1.2.2⟩)
theorem RS.e4 (h : RS W O x2 x4 x5 x6 x9 x11 x12 b2 false false b6 b9 b11 b12 b14 v2 v4 v5 v6 v9 v11 v12 g w) (ho : dI.R 2 w' w.heap.size ok v x4) (hb : Below w.heap.size w w') :
    RS W O x2 x4 x5 x6 x9 x11 x12 b2 true false b6 b9 b11 b12 b14 v2 v v5 v6 v9 v11 v12 g w' := by
  have hg := grown_of_below hb none
  have hn := Kd.R_base ho
  refine ⟨below_step h.old hb, fun e e' => R_none (h.a2 e e') hg, fun _ => Kd.R_tight rfl (Kd.R_lower ho h.old.size), fun e e' _ => Ap.mk2 hn (Kd.R_lt (h.a2 e e')), nofun, nofun, fun e e' => ?_, fun e e' => ?_, fun e => ?_, fun e => ?_, fun e => ⟨blk_below (h.c14 e).1 hb, (h.c14 e).2⟩⟩
  · exact Kd.N_mono (Kd.N_elder' (h.n6 e e') hn hb) (fun k hk => ⟨hk.1.1, hk.1.2.1, fun _ => hk.2, hk.1.2.2.2⟩)
  · exact Kd.N_mono (Kd.N_elder' (h.n9 e e') hn hb) (fun k hk => ⟨hk.1.1, hk.1.2.1, fun _ => hk.2, hk.1.2.2.2⟩)
  · exact Kd.N_mono (Kd.N_elder' (h.n11 e) hn hb) (fun k hk => ⟨⟨hk.1.1.1, hk.1.1.2.1, fun _ => hk.2, hk.1.1.2.2.2⟩, hk.1.2⟩)
  · exact Kd.N_mono (Kd.N_elder' (h.n12 e) hn hb) (fun k hk => ⟨hk.1.1, hk.1.2.1, fun _ => hk.2, hk.1.2.2.2⟩)
theorem typed_ne {e e' : Nat} {t : Value} (h1 : ∀ k, v.ownBlock = some k → ∃ cells, w.heap[k]? = some (.cells cells e (0, 0))) (h2 : ∀ k, t.ownBlock = some k → ∃ cells, w.heap[k]? = some (.cells cells e' (0, 0))) (hne : e ≠ e') : ∀ k, some k = v.ownBlock → some k ≠ t.ownBlock := by
  intro k a b
  obtain ⟨c, hc⟩ := h1 k a.symm
  obtain ⟨c', hc'⟩ := h2 k b.symm
  rw [hc] at hc'
  injection hc' with hc'
  injection hc' with _ hc'
  exact hne hc'
theorem RS.e5 (h : RS W O x2 x4 x5 x6 x9 x11 x12 true true false b6 b9 b11 b12 b14 v2 v4 v5 v6 v9 v11 v12 g w) (ho : dI.R 2 w' W.heap.size ok v x5) (hb : Below W.heap.size W w') (hg : w.grownBy w' v2.ownBlock) (hat : v.ownBlock = v2.ownBlock ∨ ∃ b, v.ownBlock = some b ∧ w.heap.size ≤ b) :
    RS W O x2 x4 x5 x6 x9 x11 x12 true true true b6 b9 b11 b12 b14 v2 v4 v v6 v9 v11 v12 g w' := by
  have h2 := h.a2 rfl rfl
  have h4 := h.a4 rfl
  refine ⟨hb, nofun, fun _ => Kd.R_grown h4 hg (fun k hk he => h.s24 rfl rfl rfl k he.symm hk.symm), nofun, fun _ => Kd.R_tight rfl ho, fun _ _ => Ap.after (h.s24 rfl rfl rfl) hat (Kd.R_lt h4), fun e e' => ?_, fun e e' => ?_, fun e => ?_, fun e => ?_, fun e => ⟨blk_grown (h.c14 e).1 hg (Kd.R_ne h2 (h.c14 e).1 (by decide)), (h.c14 e).2⟩⟩
  · exact Kd.N_mono (Kd.N_afterv (ok := fun k => okN W.heap.size O true true false b14 v2 v4 v5 g k) (Kd.N_mono (h.n6 e e') (fun k hk => ⟨hk, hk.2.1 rfl rfl⟩)) hg hat) (fun k hk => ⟨hk.1.1, nofun, hk.1.2.2.1, fun _ => hk.2, hk.1.2.2.2.2⟩)
  · exact Kd.N_mono (Kd.N_afterv (ok := fun k => okN W.heap.size O true true false b14 v2 v4 v5 g k) (Kd.N_mono (h.n9 e e') (fun k hk => ⟨hk, hk.2.1 rfl rfl⟩)) hg hat) (fun k hk => ⟨hk.1.1, nofun, hk.1.2.2.1, fun _ => hk.2, hk.1.2.2.2.2⟩)
  · exact Kd.N_mono (Kd.N_afterv (Kd.N_mono (h.n11 e) (fun k hk => ⟨hk, hk.1.2.1 rfl rfl⟩)) hg hat) (fun k hk => ⟨⟨hk.1.1.1, nofun, hk.1.1.2.2.1, fun _ => hk.2, hk.1.1.2.2.2.2⟩, hk.1.2⟩)
  · exact Kd.N_mono (Kd.N_afterv (ok := fun k => okN W.heap.size O true true false b14 v2 v4 v5 g k) (Kd.N_mono (h.n12 e) (fun k hk => ⟨hk, hk.2.1 rfl rfl⟩)) hg hat) (fun k hk => ⟨hk.1.1, nofun, hk.1.2.2.1, fun _ => hk.2, hk.1.2.2.2.2⟩)
theorem RS.e6 (h : RS W O x2 x4 x5 x6 x9 x11 x12 b2 b4 b5 false false b11 false b14 v2 v4 v5 v6 v9 v11 v12 g w) (ho : dL.N 22 w' w.heap.size (fun k => w.heap.size ≤ k) v x6) (hb : Below w.heap.size w w') :
    RS W O x2 x4 x5 x6 x9 x11 x12 b2 b4 b5 true false b11 false b14 v2 v4 v5 v v9 v11 v12 g w' := by
  have hg := grown_of_below hb none
  have hn := Kd.N_base ho
  refine ⟨below_step h.old hb, fun e e' => R_none (h.a2 e e') hg, fun e => R_none (h.a4 e) hg, h.s24, fun e => R_none (h.a5 e) hg, h.s45, fun _ _ => Kd.N_mono (Kd.N_lower ho h.old.size) (fun k hk => h.okNew hk), nofun, fun e => ?_, nofun, fun e => ⟨blk_below (h.c14 e).1 hb, (h.c14 e).2⟩⟩
  exact Kd.N_mono (Kd.N_elder' (h.n11 e) hn hb) (fun k hk => ⟨hk.1.1, fun _ _ => hk.2, nofun, nofun⟩)
theorem RS.e9 (h : RS W O x2 x4 x5 x6 x9 x11 x12 b2 b4 b5 true false b11 false b14 v2 v4 v5 v6 v9 v11 v12 g w) (ho : dL.N 22 w' W.heap.size (okN W.heap.size O b2 b4 b5 b14 v2 v4 v5 g) v x9) (hb : Below W.heap.size W w') (hg : w.grownBy w' v6.ownBlock) (hat : v.ownBlock = v6.ownBlock ∨ ∃ b, v.ownBlock = some b ∧ w.heap.size ≤ b) :
    RS W O x2 x4 x5 x6 x9 x11 x12 b2 b4 b5 true true b11 false b14 v2 v4 v5 v6 v v11 v12 g w' := by
  have h6 := Kd.N_typed (h.n6 rfl rfl)
  refine ⟨hb, fun e e' => Kd.R_over' (h.a2 e e') h6 (by decide) hg, fun e => Kd.R_over' (h.a4 e) h6 (by decide) hg, h.s24, fun e => Kd.R_over' (h.a5 e) h6 (by decide) hg, h.s45, nofun, fun _ _ => ho, fun e => ?_, nofun, fun e => ⟨blk_grown (h.c14 e).1 hg (Kd.N_ne (h.n6 rfl rfl) (h.c14 e).1 (by decide)), (h.c14 e).2⟩⟩
  exact Kd.N_mono (Kd.N_afterv (ok := fun k => okN W.heap.size O b2 b4 b5 b14 v2 v4 v5 g k) (Kd.N_mono (h.n11 e) (fun k hk => ⟨hk.1, hk.2.1 rfl rfl⟩)) hg hat) (fun k hk => ⟨hk.1, nofun, fun _ _ => hk.2, nofun⟩)
theorem RS.e11 (h : RS W O x2 x4 x5 x6 x9 x11 x12 b2 b4 b5 b6 b9 false false b14 v2 v4 v5 v6 v9 v11 v12 g w) (ho : dL.N 22 w' w.heap.size (fun k => w.heap.size ≤ k ∨ (k < W.heap.size ∧ O k)) v x11) (hb : Below w.heap.size w w') :
    RS W O x2 x4 x5 x6 x9 x11 x12 b2 b4 b5 b6 b9 true false b14 v2 v4 v5 v6 v9 v v12 g w' := by
  have hg := grown_of_below hb none
  refine ⟨below_step h.old hb, fun e e' => R_none (h.a2 e e') hg, fun e => R_none (h.a4 e) hg, h.s24, fun e => R_none (h.a5 e) hg, h.s45, fun e e' => N_none (h.n6 e e') hg, fun e e' => N_none (h.n9 e e') hg, fun _ => Kd.N_mono (Kd.N_lower ho h.old.size) (fun k hk => ?_), nofun, fun e => ⟨blk_below (h.c14 e).1 hb, (h.c14 e).2⟩⟩
  rcases hk with hk | hk
  · exact ⟨h.okNew hk, fun e e' => fresh_ne (Kd.N_lt (h.n6 e e')) hk, fun e e' => fresh_ne (Kd.N_lt (h.n9 e e')) hk, nofun⟩
  · exact ⟨h.okOld hk, fun e e' => base_ne (Kd.N_base (h.n6 e e')) hk.1, fun e e' => base_ne (Kd.N_base (h.n9 e e')) hk.1, nofun⟩
theorem RS.e12 (h : RS W O x2 x4 x5 x6 x9 x11 x12 b2 b4 b5 true true true false b14 v2 v4 v5 v6 v9 v11 v12 g w) (ho : dL.N 22 w' W.heap.size (okN W.heap.size O b2 b4 b5 b14 v2 v4 v5 g) v x12) (hb : Below W.heap.size W w') (hg : w.grownBy w' v9.ownBlock) (hat : v.ownBlock = v9.ownBlock ∨ ∃ b, v.ownBlock = some b ∧ w.heap.size ≤ b) :
    RS W O x2 x4 x5 x6 x9 x11 x12 b2 b4 b5 true true true true b14 v2 v4 v5 v6 v9 v11 v g w' := by
  have h9 := Kd.N_typed (h.n9 rfl rfl)
  refine ⟨hb, fun e e' => Kd.R_over' (h.a2 e e') h9 (by decide) hg, fun e => Kd.R_over' (h.a4 e) h9 (by decide) hg, h.s24, fun e => Kd.R_over' (h.a5 e) h9 (by decide) hg, h.s45, nofun, nofun, fun e => ?_, fun _ => ho, fun e => ⟨blk_grown (h.c14 e).1 hg (Kd.N_ne (h.n9 rfl rfl) (h.c14 e).1 (by decide)), (h.c14 e).2⟩⟩
  exact Kd.N_mono (Kd.N_afterv (ok := fun k => okN W.heap.size O b2 b4 b5 b14 v2 v4 v5 g k) (Kd.N_mono (h.n11 e) (fun k hk => ⟨hk.1, hk.2.2.1 rfl rfl⟩)) hg hat) (fun k hk => ⟨hk.1, nofun, nofun, fun _ => hk.2⟩)
theorem RS.e14 (h : RS W O x2 x4 x5 x6 x9 x11 x12 b2 b4 b5 b6 b9 b11 b12 false v2 v4 v5 v6 v9 v11 v12 g w) (he : g' = w.heap.size) (hx : w'.heap[g']? = some (.cells #[.slice none 0 0, .slice none 0 0] 29 (0, 0))) (hb : Below w.heap.size w w') :
    RS W O x2 x4 x5 x6 x9 x11 x12 b2 b4 b5 b6 b9 b11 b12 true v2 v4 v5 v6 v9 v11 v12 g' w' := by
  have hg := grown_of_below hb none
  have hle : w.heap.size ≤ g' := by omega
  refine ⟨below_step h.old hb, fun e e' => R_none (h.a2 e e') hg, fun e => R_none (h.a4 e) hg, h.s24, fun e => R_none (h.a5 e) hg, h.s45, fun e e' => ?_, fun e e' => ?_, fun e => ?_, fun e => ?_, fun _ => ⟨hx, Nat.le_trans h.old.size hle⟩⟩
  · exact Kd.N_below (Kd.N_mono (Kd.N_elderB (h.n6 e e') g' hle) (fun k hk => ⟨hk.1.1, hk.1.2.1, hk.1.2.2.1, hk.1.2.2.2.1, fun _ => hk.2⟩)) hb
  · exact Kd.N_below (Kd.N_mono (Kd.N_elderB (h.n9 e e') g' hle) (fun k hk => ⟨hk.1.1, hk.1.2.1, hk.1.2.2.1, hk.1.2.2.2.1, fun _ => hk.2⟩)) hb
  · exact Kd.N_below (Kd.N_mono (Kd.N_elderB (h.n11 e) g' hle) (fun k hk => ⟨⟨hk.1.1.1, hk.1.1.2.1, hk.1.1.2.2.1, hk.1.1.2.2.2.1, fun _ => hk.2⟩, hk.1.2⟩)) hb
  · exact Kd.N_below (Kd.N_mono (Kd.N_elderB (h.n12 e) g' hle) (fun k hk => ⟨hk.1.1, hk.1.2.1, hk.1.2.2.1, hk.1.2.2.2.1, fun _ => hk.2⟩)) hb
end
end Go.Proofs.Ytlhpejabdmejbaa.PFnMeans
