import Derived.Test.YtlhpejabdmejbaaWMore
namespace Go.Proofs.YtlhpejabdmejbaaW.OV
set_option linter.unusedVariables false
open Go Go.Proofs Go.RowKit Go.Proofs.YtlhpejabdmejbaaW.PrintWords
/-- A list of integers in a block of its own, of which h tells what list stands there. -/
def ownV (h : Nat → List Int) (e : Nat) : Kd (List Int) where
  sz := 1
  E := e :: (Kd.int .i64).E
  K := fun w x cs => ∃ v, cs = [v] ∧ (Kd.int .i64).R e w 0 (fun k => h k = x) v x
  M := fun w base ok x cs => ∃ v, cs = [v] ∧ (Kd.int .i64).R e w base (fun k => ok k ∧ h k = x) v x
  K_len := by rintro w x cs ⟨v, rfl, _⟩; rfl
  K_one := by
    rintro w x cs ⟨v, rfl, h⟩ u hu
    rw [List.mem_singleton.1 hu]
    obtain ⟨A, c, rfl⟩ := Kd.R_slice h
    rfl
  K_below := by rintro w w1 x cs hb ⟨v, rfl, h⟩; exact ⟨v, rfl, Kd.R_below h hb⟩
  K_of_M := by rintro w base ok x cs ⟨v, rfl, h⟩; exact ⟨v, rfl, Kd.R_mono (Kd.R_lower h (Nat.zero_le _)) (fun _ hk => hk.2)⟩
  M_mono := by rintro w base ok ok' x cs hok ⟨v, rfl, h⟩; exact ⟨v, rfl, Kd.R_mono h (fun k hk => ⟨hok k hk.1, hk.2⟩)⟩
  M_bound := by rintro w base ok x cs ⟨v, rfl, h⟩; exact ⟨v, rfl, Kd.R_mono (Kd.R_bound h) (fun k hk => ⟨⟨hk.1.1, hk.2⟩, hk.1.2⟩)⟩
  M_move := by rintro w w1 base ok x cs hm ⟨v, rfl, h⟩; exact ⟨v, rfl, Kd.R_move h (fun k hk => hm k hk.1)⟩
  M_lower := by rintro w base base' ok x cs hb ⟨v, rfl, h⟩; exact ⟨v, rfl, Kd.R_lower h hb⟩
section
variable {e e2 n : Nat} {w W : World} {x : List Int} {cs : List Value} {v : Value} {ok : Nat → Prop} {base : Nat} {A : Option Addr} {xs : List (List Int)} {h h' : Nat → List Int}
theorem ownV_K (hk : (ownV h e).K w x cs) : (Kd.slice e (Kd.int .i64)).K w x cs := by
  obtain ⟨v, rfl, hk⟩ := hk
  obtain ⟨A, c, rfl, hl, hc⟩ := Kd.R_reads hk
  exact ⟨A, c, rfl, hl, hc⟩
theorem ownV_C (hc : (ownV h e).C w A n xs) : (Kd.slice e (Kd.int .i64)).C w A n xs := ReadsRow.imp_ hc (Below.refl _ _) (fun _ _ hp => ownV_K hp)
theorem ownV_mk (hR : (Kd.int .i64).R e W base ok v x) (hh : ∀ k, ok k → h k = x) : Kd.FK (ownV h e) W ok x [v] := Kd.FK_of_M (d := ownV h e) ⟨v, rfl, Kd.R_mono hR (fun k hk => ⟨hk, hh k hk⟩)⟩
theorem ownV_R (hf : Kd.FK (ownV h e) W ok x [v]) (hb : ∀ k, ok k → base ≤ k) : (Kd.int .i64).R e W base (fun k => ok k ∧ h k = x) v x := by
  obtain ⟨v', hv, hR⟩ := Kd.FK_now hf
  injection hv with hv _
  subst hv
  have hok : ∀ k, v.ownBlock = some k → ok k := by
    intro k hk
    refine Classical.byContradiction fun hno => ?_
    obtain ⟨cells, hc⟩ := Kd.R_typed hR k hk
    obtain ⟨v2, hv2, hR2⟩ := hf { W with heap := W.heap.setIfInBounds k (.cells #[] (e + 1) (0, 0)) } (fun j hj _ => by
      have : k ≠ j := fun e => hno (e ▸ hj)
      simp [this])
    injection hv2 with hv2 _
    subst hv2
    obtain ⟨cells2, hc2⟩ := Kd.R_typed hR2 k hk
    have hlt : k < W.heap.size := (Array.getElem?_eq_some_iff.1 hc).1
    simp [hlt] at hc2
  have hR3 := Kd.R_reok (ok := fun k => ok k ∧ h k = x) rfl hR (fun k hk => ⟨hok k hk, hR.1 k hk⟩)
  exact Kd.R_raise (d := Kd.int .i64) (b := 0) (b' := base) (fun _ _ _ _ h_ => h_) hR3 (fun k hk => hb k (hok k hk))
theorem ownV_cell {c : List Value} (hf : Kd.FK (ownV h e) W ok x c) : ∃ v, c = [v] := by
  obtain ⟨v, hv, _⟩ := Kd.FK_now hf
  exact ⟨v, hv⟩
theorem switch (hN : Kd.N (ownV h e2) e w base ok v xs) (hh : ∀ k, ok k → h' k = h k) : Kd.N (ownV h' e2) e w base ok v xs := by
  obtain ⟨h0, rows, hl, hR, hf⟩ := hN
  refine ⟨h0, rows, hl, hR, fun j x c hx hc => ?_⟩
  have h1 := hf j x c hx hc
  obtain ⟨u, rfl⟩ := ownV_cell h1
  refine Kd.FK_mono (ownV_mk (base := 0) (ok := fun k => (ok k ∧ some k ≠ v.ownBlock) ∧ h k = x) (ownV_R h1 (fun _ _ => Nat.zero_le _)) (fun k hk => ?_)) (fun k hk => hk.1)
  rw [hh k hk.1.1]; exact hk.2
/-- Lists that are all different: no two of them stand in one block. -/
theorem N_S (hN : Kd.N (ownV h e2) e w base ok v xs) (hn : xs.Nodup) (hb : ∀ k, ok k → base ≤ k) : Kd.S (Kd.slice e2 (Kd.int .i64)) e w base ok v xs := by
  classical
  obtain ⟨h0, rows, hl, hR, hf⟩ := hN
  obtain ⟨_, inner, ho, hr⟩ := hR
  refine ⟨fun k => if hx : ∃ j, xs[j]? = some (h k) then Classical.choose hx else 0, h0, inner, ?_, ?_, ?_⟩
  · rw [List.length_zipIdx, ← hl]; exact ho
  · have := hr.1
    rw [List.length_zipIdx, ← hl]
    exact this
  · intro j p hj
    rw [List.getElem?_zipIdx] at hj
    cases hx : xs[j]? with
    | none => rw [hx] at hj; cases hj
    | some x =>
      rw [hx] at hj
      simp only [Option.map_some, Option.some.injEq] at hj
      subst hj
      have hjl : j < rows.length := by rw [hl]; exact (List.getElem?_eq_some_iff.1 hx).1
      have hc := List.getElem?_eq_getElem hjl
      have h1 := hf j x _ hx hc
      obtain ⟨u, hu⟩ := ownV_cell h1
      have h2 := (hr.2 j _ hc).1
      rw [hu] at h1 h2
      refine ⟨u, h2, Kd.R_mono (ownV_R (base := base) h1 (fun k hk => hb k hk.1)) (fun k hk => ⟨hk.1, ?_⟩)⟩
      have hex : ∃ j, xs[j]? = some (h k) := ⟨j, by rw [hk.2]; exact hx⟩
      show (if hx : ∃ j, xs[j]? = some (h k) then Classical.choose hx else 0) = 0 + j
      rw [dif_pos hex]
      have hs : xs[Classical.choose hex]? = some x := (Classical.choose_spec hex).trans (congrArg some hk.2)
      have hlt := (List.getElem?_eq_some_iff.1 hs).1
      have := (List.getElem?_inj hlt hn).1 (hs.trans hx.symm)
      omega
end
/-- A world's size, from an earlier one on. -/
theorem sz_drew {n : Nat} {W : World} (h : n ≤ W.heap.size) : n ≤ W.drew.heap.size := h
theorem sz_drewN {n : Nat} {W : World} (h : n ≤ W.heap.size) (m : Nat) : n ≤ (W.drewN m).heap.size := h
theorem sz_alloc {n : Nat} {W : World} (h : n ≤ W.heap.size) (o : Obj) : n ≤ (W.alloc o).heap.size := by simp; omega
theorem sz_below {n : Nat} {W w1 : World} (h : n ≤ W.heap.size) (hb : Below W.heap.size W w1) : n ≤ w1.heap.size := Nat.le_trans h hb.size
theorem sz_grown {n : Nat} {W w1 : World} {row : Option Nat} (h : n ≤ W.heap.size) (hg : W.grownBy w1 row) : n ≤ w1.heap.size := Nat.le_trans h hg.size
theorem own_at {n : Nat} {W : World} {u u1 : Value} {ob : Option Nat} (hob : ob = u.ownBlock) (hat : u1.ownBlock = u.ownBlock ∨ ∃ b, u1.ownBlock = some b ∧ W.heap.size ≤ b) (hn : n ≤ W.heap.size) : ∀ k, u1.ownBlock = some k → ob = some k ∨ n ≤ k := by
  intro k e
  rcases hat with h | ⟨b, h, hle⟩
  · exact .inl (hob.trans (h.symm.trans e))
  · rw [h] at e
    injection e with e
    subst e
    exact .inr (Nat.le_trans hn hle)
theorem sz_set {n : Nat} {W : World} (h : n ≤ W.heap.size) (p : Addr) (u : Value) : n ≤ (W.setCell p u).heap.size := by simpa [World.setCell] using h
/-- What the values tell of the blocks. -/
theorem tight {e e2 : Nat} {w : World} {base : Nat} {ok Q : Nat → Prop} {v : Value} {xs : List (List Int)} {h : Nat → List Int} (hN : Kd.N (ownV h e2) e w base ok v xs) (hv : ∀ k, v.ownBlock = some k → Q k) (hx : ∀ k x, x ∈ xs → h k = x → Q k) : Kd.N (ownV h e2) e w base (fun k => ok k ∧ Q k) v xs := by
  obtain ⟨h0, rows, hl, hR, hf⟩ := hN
  refine ⟨fun k hk => ⟨h0 k hk, hv k hk⟩, rows, hl, hR, fun j x c hj hc => ?_⟩
  have h1 := hf j x c hj hc
  obtain ⟨u, rfl⟩ := ownV_cell h1
  have hm : x ∈ xs := List.mem_of_getElem? hj
  exact Kd.FK_mono (ownV_mk (base := 0) (ok := fun k => (ok k ∧ some k ≠ v.ownBlock) ∧ h k = x) (ownV_R h1 (fun _ _ => Nat.zero_le _)) (fun k hk => hk.2)) (fun k hk => ⟨⟨hk.1.1, hx k x hm hk.2⟩, hk.1.2⟩)
/-- A list that is none of some. -/
theorem other (l : List (List Int)) : ∃ z : List Int, z ∉ l := by
  have key : ∀ l : List (List Int), ∃ m : Nat, ∀ x ∈ l, x.length < m := by
    intro l
    induction l with
    | nil => exact ⟨0, fun x hx => by simp at hx⟩
    | cons y l ih =>
      obtain ⟨m, hm⟩ := ih
      refine ⟨m + y.length + 1, fun x hx => ?_⟩
      rcases List.mem_cons.1 hx with rfl | hx
      · omega
      · have := hm x hx; omega
  obtain ⟨m, hm⟩ := key l
  exact ⟨List.replicate m 0, fun h => by have := hm _ h; simp at this⟩
end Go.Proofs.YtlhpejabdmejbaaW.OV
