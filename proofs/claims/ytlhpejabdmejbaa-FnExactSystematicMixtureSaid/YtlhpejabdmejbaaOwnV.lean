import Derived.Test.YtlhpejabdmejbaaWMore
namespace Go.Proofs.YtlhpejabdmejbaaW.OV
set_option linter.unusedVariables false
open Go Go.Proofs Go.RowKit Go.Proofs.YtlhpejabdmejbaaW.PrintWords
/-- A list of integers in a block of its own, of which h tells what list stands there. -/
def ownV (h : Nat → List Int) (e : Nat) : Kd (List Int) where
  sz := 1
  E := e :: (Kd.int .i64).E
  K := fun w x cs => ∃ v, cs = [v] ∧ (Kd.int .i64).R e w 0 (fun k => h k = x) v x
  M := fun w base ok x cs => ∃ v, cs = [v] ∧ (Kd.int .i64).R e w base (fun k => ok k ∧ h k = x) v x
  K_len := by rintro w x cs ⟨v, rfl, _⟩; rfl
  K_one := by
    rintro w x cs ⟨v, rfl, h⟩ u hu
    rw [List.mem_singleton.1 hu]
    obtain ⟨A, c, rfl⟩ := Kd.R_slice h
    rfl
  K_below := by rintro w w1 x cs hb ⟨v, rfl, h⟩; exact ⟨v, rfl, Kd.R_below h hb⟩
  K_of_M := by rintro w base ok x cs ⟨v, rfl, h⟩; exact ⟨v, rfl, Kd.R_mono (Kd.R_lower h (Nat.zero_le _)) (fun _ hk => hk.2)⟩
  M_mono := by rintro w base ok ok' x cs hok ⟨v, rfl, h⟩; exact ⟨v, rfl, Kd.R_mono h (fun k hk => ⟨hok k hk.1, hk.2⟩)⟩
  M_bound := by rintro w base ok x cs ⟨v, rfl, h⟩; exact ⟨v, rfl, Kd.R_mono (Kd.R_bound h) (fun k hk => ⟨⟨hk.1.1, hk.2⟩, hk.1.2⟩)⟩
  M_move := by rintro w w1 base ok x cs hm ⟨v, rfl, h⟩; exact ⟨v, rfl, Kd.R_move h (fun k hk => hm k hk.1)⟩
  M_lower := by rintro w base base' ok x cs hb ⟨v, rfl, h⟩; exact ⟨v, rfl, Kd.R_lower h hb⟩
section
variable {e e2 n : Nat} {w W : World} {x : List Int} {cs : List Value} {v : Value} {ok : Nat → Prop} {base : Nat} {A : Option Addr} {xs : List (List Int)} {h h' : Nat → List Int}
theorem ownV_K (hk : (ownV h e).K w x cs) : (Kd.slice e (Kd.int .i64)).K w x cs := by
  obtain ⟨v, rfl, hk⟩ := hk
  obtain ⟨A, c, rfl, hl, hc⟩ := Kd.R_reads hk
  exact ⟨A, c, rfl, hl, hc⟩
theorem ownV_C (hc : (ownV h e).C w A n xs) : (Kd.slice e (Kd.int .i64)).C w A n xs := ReadsRow.imp_ hc (Below.refl _ _) (fun _ _ hp => ownV_K hp)
theorem ownV_mk (hR : (Kd.int .i64).R e W base ok v x) (hh : ∀ k, ok k → h k = x) : Kd.FK (ownV h e) W ok x [v] := Kd.FK_of_M (d := ownV h e) ⟨v, rfl, Kd.R_mono hR (fun k hk => ⟨hk, hh k hk⟩)⟩
theorem ownV_R (hf : Kd.FK (ownV h e) W ok x [v]) (hb : ∀ k, ok k → base ≤ k) : (Kd.int .i64).R e W base (fun k => ok k ∧ h k = x) v x := by
  obtain ⟨v', hv, hR⟩ := Kd.FK_now hf
  injection hv with hv _
  subst hv
  have hok : ∀ k, v.ownBlock = some k → ok k := by
    intro k hk
    refine Classical.byContradiction fun hno => ?_
    obtain ⟨cells, hc⟩ := Kd.R_typed hR k hk
    obtain ⟨v2, hv2, hR2⟩ := hf { W with heap := W.heap.setIfInBounds k (.cells #[] (e + 1) (0, 0)) } (fun j hj _ => by
      have : k ≠ j := fun e => hno (e ▸ hj)
      simp [this])
    injection hv2 with hv2 _
    subst hv2
    obtain ⟨cells2, hc2⟩ := Kd.R_typed hR2 k hk
    have hlt : k < W.heap.size := (Array.getElem?_eq_some_iff.1 hc).1
    simp [hlt] at hc2
  have hR3 := Kd.R_reok (ok := fun k => ok k ∧ h k = x) rfl hR (fun k hk => ⟨hok k hk, hR.1 k hk⟩)
  exact Kd.R_raise (d := Kd.int .i64) (b := 0) (b' := base) (fun _ _ _ _ h_ => h_) hR3 (fun k hk => hb k (hok k hk))
theorem ownV_cell {c : List Value} (hf : Kd.FK (ownV h e) W ok x c) : ∃ v, c = [v] := by
  obtain ⟨v, hv, _⟩ := Kd.FK_now hf
  exact ⟨v, hv⟩
theorem switch (hN : Kd.N (ownV h e2) e w base ok v xs) (hh : ∀ k, ok k → h' k = h k) : Kd.N (ownV h' e2) e w base ok v xs := by
  obtain ⟨h0, rows, hl, hR, hf⟩ := hN
  refine ⟨h0, rows, hl, hR, fun j x c hx hc => ?_⟩
  have h1 := hf j x c hx hc
  obtain ⟨u, rfl⟩ := ownV_cell h1
  refine Kd.FK_mono (ownV_mk (base := 0) (ok := fun k => (ok k ∧ some k ≠ v.ownBlock) ∧ h k = x) (ownV_R h1 (fun _ _ => Nat.zero_le _)) (fun k hk => ?_)) (fun k hk => hk.1)
  rw [hh k hk.1.1]; exact hk.2
/-- Lists that are all different: no two of them stand in one block. -/
theorem N_S (hN : Kd.N (ownV h e2) e w base ok v xs) (hn : xs.Nodup) (hb : ∀ k, ok k → base ≤ k) : Kd.S (Kd.slice e2 (Kd.int .i64)) e w base ok v xs := by
  classical
  obtain ⟨h0, rows, hl, hR, hf⟩ := hN
  obtain ⟨_, inner, ho, hr⟩ := hR
  refine ⟨fun k => if hx : ∃ j, xs[j]? = some (h k) then Classical.choose hx else 0, h0, inner, ?_, ?_, ?_⟩
  · rw [List.length_zipIdx, ← hl]; exact ho
  · have := hr.1
    rw [List.length_zipIdx, ← hl]
    exact this
  · intro j p hj
    rw [List.getElem?_zipIdx] at hj
    cases hx : xs[j]? with
    | none => rw [hx] at hj; cases hj
    | some x =>
      rw [hx] at hj
      simp only [Option.map_some, Option.some.injEq] at hj
      subst hj
      have hjl : j < rows.length := by rw [hl]; exact (List.getElem?_eq_some_iff.1 hx).1
      have hc := List.getElem?_eq_getElem hjl
      have h1 := hf j x _ hx hc
      obtain ⟨u, hu⟩ := ownV_cell h1
      have h2 := (hr.2 j _ hc).1
      rw [hu] at h1 h2
      refine ⟨u, h2, Kd.R_mono (ownV_R (base := base) h1 (fun k hk => hb k hk.1)) (fun k hk => ⟨hk.1, ?_⟩)⟩
      have hex : ∃ j, xs[j]? = some (h k) := ⟨j, by rw [hk.2]; exact hx⟩
      show (if hx : ∃ j, xs[j]? = some (h k) then Classical.choose hx else 0) = 0 + j
      rw [dif_pos hex]
      have hs : xs[Classical.choose hex]? = some x := (Classical.choose_spec hex).trans (congrArg some hk.2)
      have hlt := (List.getElem?_eq_some_iff.1 hs).1
      have := (List.getElem?_inj hlt hn).1 (hs.trans hx.symm)
      omega
end
end Go.Proofs.YtlhpejabdmejbaaW.OV
