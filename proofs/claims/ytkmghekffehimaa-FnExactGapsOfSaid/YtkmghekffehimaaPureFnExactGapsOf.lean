/- Proved: the pure half of the law FnExactGapsOf: the printed functions answer true, for every input. No condition. -/
import Derived.Test.YtkmghekffehimaaPFnExactGapsOfx4
import Derived.Test.YtkmghekffehimaaBase
import Derived.Test.YtkmghekffehimaaLists
import Derived.Test.YtkmghekffehimaaGap
import Derived.Test.YtkmghekffehimaaPoints
import Derived.Test.YtkmghekffehimaaMarks
namespace Go.Proofs.Ytkmghekffehimaa.Pure
open Go.RowKit Go.Proofs.Ytkmghekffehimaa.PFnExactGapsOf Go.Proofs.YtkmghekffehimaaW.PrintWords Go.Proofs.YtkmghekffehimaaW.PrintLast Go.Proofs.YtkmghekffehimaaW.PrintMore Go.Proofs.Ytkmghekffehimaa.Base
set_option linter.unusedVariables false
set_option linter.unusedSimpArgs false

/-! laws.eqInt64S -/
theorem eq_l0 (a b : List Int) (hl : a.length = b.length) (hm : a.length ≤ 9223372036854775806) : ∀ (d i : Nat), d + i = a.length → Ev (fun k => laws_eqInt64S.l0 k a b i) (decide (a.drop i = b.drop i)) := by
  intro d
  induction d with
  | zero =>
    intro i hd
    apply Ev.succ
    simp only [laws_eqInt64S.l0, if_neg (show ¬ (i : Int) < (a.length : Int) by omega)]
    rw [List.drop_of_length_le (by omega), List.drop_of_length_le (by omega)]
    exact Ev.now _
  | succ d ih =>
    intro i hd
    have hi : i < a.length := by omega
    have hi' : i < b.length := by omega
    apply Ev.succ
    simp only [laws_eqInt64S.l0, if_pos (show (i : Int) < (a.length : Int) by omega), if_pos (show 0 ≤ (i : Int) by omega), if_pos (show (i : Int) < (b.length : Int) by omega), rd_get hi, rd_get hi', w64 (show (-9223372036854775808) ≤ (i : Int) + 1 by omega) (by omega)]
    rw [List.drop_eq_getElem_cons hi, List.drop_eq_getElem_cons hi']
    by_cases h : a[i] = b[i]
    · simp only [if_pos h]
      exact (ih (i + 1) (by omega)).to (by simp only [List.cons.injEq, h, true_and])
    · simp only [if_neg h]
      exact (Ev.now _).to (by simp only [List.cons.injEq, h, false_and, decide_false])
theorem eqInt64S_ev (a b : List Int) (hm : a.length ≤ 9223372036854775806) : Ev (fun k => laws_eqInt64S.f k a b) (decide (a = b)) := by
  unfold laws_eqInt64S.f
  by_cases h : a.length = b.length
  · simp only [if_pos (show (a.length : Int) = (b.length : Int) by omega)]
    simpa using eq_l0 a b h hm a.length 0 (by omega)
  · simp only [if_neg (show ¬ (a.length : Int) = (b.length : Int) by omega)]
    exact (Ev.now _).to (by symm; simp; intro e; exact h (by rw [e]))

/-! spec.l00In -/
theorem in_eq (a b c : Int) : spec_l00In.f a b c = some (decide (b ≤ a ∧ a ≤ c)) := by
  unfold spec_l00In.f
  by_cases h : b ≤ a
  · rw [if_pos (show a ≥ b from h)]; simp [h]
  · rw [if_neg (show ¬ a ≥ b from h)]; simp [h]

/-! spec.l00Put -/
def PUT : List Int → Int → List Int
  | [], n => [n]
  | x :: l, n => if x ≥ n then (if x > n then n :: x :: l else x :: l) else x :: PUT l n
theorem put_mem (n y : Int) : ∀ l : List Int, y ∈ PUT l n ↔ y = n ∨ y ∈ l
  | [] => by simp [PUT]
  | x :: l => by
    have ih := put_mem n y l
    unfold PUT
    by_cases c : x ≥ n
    · rw [if_pos c]
      by_cases c2 : x > n
      · rw [if_pos c2]; simp
      · rw [if_neg c2]
        have : x = n := by omega
        subst this
        simp only [List.mem_cons]
        constructor
        · intro h; exact .inr h
        · rintro (h | h)
          · exact .inl h
          · exact h
    · rw [if_neg c]
      simp only [List.mem_cons, ih]
      constructor
      · rintro (h | h | h)
        · exact .inr (.inl h)
        · exact .inl h
        · exact .inr (.inr h)
      · rintro (h | h | h)
        · exact .inr (.inl h)
        · exact .inl h
        · exact .inr (.inr h)
theorem put_rise (n : Int) : ∀ l : List Int, l.Pairwise (· < ·) → (PUT l n).Pairwise (· < ·)
  | [], _ => by simp [PUT]
  | x :: l, h => by
    have h' := List.pairwise_cons.1 h
    have ih := put_rise n l h'.2
    unfold PUT
    by_cases c : x ≥ n
    · rw [if_pos c]
      by_cases c2 : x > n
      · rw [if_pos c2, List.pairwise_cons]
        refine ⟨fun y hy => ?_, h⟩
        rcases List.mem_cons.1 hy with e | hy
        · omega
        · have := h'.1 y hy; omega
      · rw [if_neg c2]; exact h
    · rw [if_neg c, List.pairwise_cons]
      refine ⟨fun y hy => ?_, ih⟩
      rcases (put_mem n y l).1 hy with e | hy
      · omega
      · exact h'.1 y hy
theorem put_length (n : Int) : ∀ l : List Int, (PUT l n).length ≤ l.length + 1
  | [] => by simp [PUT]
  | x :: l => by
    have ih := put_length n l
    unfold PUT
    by_cases c : x ≥ n
    · rw [if_pos c]
      by_cases c2 : x > n
      · rw [if_pos c2]; simp
      · rw [if_neg c2]; simp
    · rw [if_neg c]; simp; omega
theorem put_l0 (l : List Int) (n : Int) (hl : l.length ≤ 1000000) : ∀ (d i : Nat), i + d = l.length → ∀ acc : List Int, acc.length ≤ i + 1 →
    Ev (fun k => spec_l00Put.l0 k l n acc true (i : Int)) (acc ++ l.drop i) ∧ (acc.length ≤ i → Ev (fun k => spec_l00Put.l0 k l n acc false (i : Int)) (acc ++ PUT (l.drop i) n)) := by
  intro d
  induction d with
  | zero =>
    intro i hi acc ha
    have hd : l.drop i = [] := List.drop_of_length_le (by omega)
    rw [hd]
    refine ⟨?_, fun ha => ?_⟩
    · apply Ev.succ
      simp only [spec_l00Put.l0, if_neg (show ¬ (i : Int) < (l.length : Int) by omega), if_true, List.append_nil]
      exact Ev.now _
    · apply Ev.succ
      simp only [spec_l00Put.l0, if_neg (show ¬ (i : Int) < (l.length : Int) by omega), Bool.false_eq_true, if_false, if_pos (show acc.length < 17592186044416 by omega), PUT]
      exact Ev.now _
  | succ d ih =>
    intro i hi acc ha
    have hi' : i < l.length := by omega
    have hd : l.drop i = l[i] :: l.drop (i + 1) := List.drop_eq_getElem_cons hi'
    have c1 : (i : Int) < (l.length : Int) := by omega
    have c0 : 0 ≤ (i : Int) := by omega
    have ca : acc.length < 17592186044416 := by omega
    have ei : wrap64 ((i : Int) + 1) = ((i + 1 : Nat) : Int) := by rw [w64 (by omega) (by omega)]; omega
    rw [hd]
    refine ⟨?_, fun ha => ?_⟩
    · have := (ih (i + 1) (by omega) (acc ++ [l[i]]) (by simp; omega)).1
      apply Ev.succ
      simp only [spec_l00Put.l0, if_pos c1, if_true]
      apply Ev.succ
      simp only [spec_l00Put.j1, Bool.false_eq_true, if_false, if_pos c0, if_pos c1, if_pos ca, rd_get hi', ei]
      exact this.to (by simp)
    · apply Ev.succ
      simp only [spec_l00Put.l0, if_pos c1, Bool.false_eq_true, if_false, if_pos c0, rd_get hi']
      unfold PUT
      by_cases c : l[i] ≥ n
      · rw [if_pos c]
        by_cases c2 : l[i] > n
        · have := (ih (i + 1) (by omega) (acc ++ [n] ++ [l[i]]) (by simp; omega)).1
          rw [if_pos c2]
          apply Ev.succ
          simp only [spec_l00Put.j1, decide_eq_true c, if_true, if_pos c0, if_pos c1, if_pos ca, rd_get hi', if_pos c2, Option.bind_some, ei]
          simp only [if_pos (show (acc ++ [n]).length < 17592186044416 by simp; omega)]
          exact this.to (by simp)
        · have := (ih (i + 1) (by omega) (acc ++ [l[i]]) (by simp; omega)).1
          rw [if_neg c2]
          apply Ev.succ
          simp only [spec_l00Put.j1, decide_eq_true c, if_true, if_pos c0, if_pos c1, if_pos ca, rd_get hi', if_neg c2, ei]
          exact this.to (by simp)
      · have := (ih (i + 1) (by omega) (acc ++ [l[i]]) (by simp; omega)).2 (by simp; omega)
        rw [if_neg c]
        apply Ev.succ
        simp only [spec_l00Put.j1, decide_eq_false c, Bool.false_eq_true, if_false, if_pos c0, if_pos c1, if_pos ca, rd_get hi', ei]
        exact this.to (by simp)
theorem put_ev (l : List Int) (n : Int) (hl : l.length ≤ 1000000) : Ev (fun k => spec_l00Put.f k l n) (PUT l n) := by
  have := (put_l0 l n hl l.length 0 (by omega) [] (by simp)).2 (by simp)
  unfold spec_l00Put.f
  simpa using this

/-! spec.GapsOf -/
theorem pts_succS (a D : Int) (i : Nat) : PTS a D i ++ [pos a D i] = PTS a D (i + 1) := by simp [PTS, List.range_succ]
theorem pos_codeS {a D : Int} {i : Nat} (hD : 1 ≤ D ∧ D ≤ 1000) (ha : 0 ≤ a ∧ a ≤ 1000) (hi : i ≤ 1000) : Int.tmod (wrap64 ((i : Int) * a)) D = pos a D i := by
  have h1 : 0 ≤ (i : Int) * a := Int.mul_nonneg (by omega) ha.1
  have h2 : (i : Int) * a ≤ 1000 * 1000 := Int.mul_le_mul (by omega) ha.2 ha.1 (by omega)
  rw [w64 (by omega) (by omega), Int.tmod_eq_emod_of_nonneg h1]
  rfl
/-- The marked places. -/
def MK (S : List Int) (D : Nat) : List Bool := (List.range D).map fun x : Nat => decide ((x : Int) ∈ S)
theorem mk_length (S : List Int) (D : Nat) : (MK S D).length = D := by simp [MK]
theorem mk_get {S : List Int} {D : Nat} {x : Int} (h0 : 0 ≤ x) (h1 : x < D) : rdOf false (MK S D) x = decide (x ∈ S) := by
  unfold rdOf MK
  rw [getD_range _ _ (by omega), show ((x.toNat : Nat) : Int) = x by omega]
theorem mk_set {S : List Int} {D : Nat} {x : Int} (h0 : 0 ≤ x) (h1 : x < D) : (MK S D).set x.toNat true = MK (S ++ [x]) D := by
  apply List.ext_getElem
  · simp [MK]
  · intro i h2 h3
    simp only [MK, List.length_map, List.length_range, List.length_set] at h2 h3
    rw [List.getElem_set]
    simp only [MK, List.getElem_map, List.getElem_range, List.mem_append, List.mem_singleton]
    by_cases c : x.toNat = i
    · rw [if_pos c]
      have : (i : Int) = x := by omega
      simp [this]
    · rw [if_neg c]
      have : ¬ (i : Int) = x := by omega
      simp [this]
/-- What has been put up to the place z. -/
def MET (S : List Int) (D z g : Int) : Prop := ∃ u v, u ∈ S ∧ (v ∈ S ∨ v = D) ∧ v < z ∧ u < v ∧ g = v - u ∧ ∀ y ∈ S, ¬ (u < y ∧ y < v)
theorem gapsS_l1 (S : List Int) (D : Nat) (hD : 1 ≤ D ∧ D ≤ 1000) (hS : ∀ x ∈ S, 0 ≤ x ∧ x < (D : Int)) : ∀ (d z : Nat), z + d = D + 1 → 1 ≤ z → ∀ (G : List Int) (last : Int), G.length ≤ z → G.Pairwise (· < ·) → (∀ g, g ∈ G ↔ MET S D z g) → (z ≤ D → last ∈ S ∧ last < z ∧ ∀ y ∈ S, ¬ (last < y ∧ y < z)) →
    ∃ R : List Int, Ev (fun k => spec_GapsOf.l1 k (D : Int) (MK S D) G last (z : Int)) (R, true) ∧ R.Pairwise (· < ·) ∧ ∀ g, g ∈ R ↔ GAP S D g := by
  intro d
  induction d with
  | zero =>
    intro z hz h1 G last hG hr hm hl
    refine ⟨G, ?_, hr, fun g => ?_⟩
    · apply Ev.succ
      simp only [spec_GapsOf.l1, if_neg (show ¬ (z : Int) ≤ (D : Int) by omega)]
      exact Ev.now _
    · rw [hm]
      constructor
      · rintro ⟨u, v, a, b, _, c⟩; exact ⟨u, v, a, b, c⟩
      · rintro ⟨u, v, a, b, c⟩
        refine ⟨u, v, a, b, ?_, c⟩
        rcases b with b | b
        · have := hS v b; omega
        · omega
  | succ d ih =>
    intro z hz h1 G last hG hr hm hl
    obtain ⟨l1, l2, l3⟩ := hl (by omega)
    have l0 := hS _ l1
    have ei : wrap64 ((z : Int) + 1) = ((z + 1 : Nat) : Int) := by rw [w64 (by omega) (by omega)]; omega
    have es : wrap64 ((z : Int) - last) = (z : Int) - last := w64 (by omega) (by omega)
    have hp := put_ev G ((z : Int) - last) (by omega)
    -- a mark, or the end
    have mark : ((z : Int) ∈ S ∨ z = D) → ∀ g, g ∈ PUT G ((z : Int) - last) ↔ MET S D ((z + 1 : Nat) : Int) g := by
      intro hzS g
      rw [put_mem, hm]
      constructor
      · rintro (rfl | ⟨u, v, a, b, c, e⟩)
        · refine ⟨last, z, l1, ?_, by omega, l2, rfl, l3⟩
          rcases hzS with h | h
          · exact .inl h
          · right; omega
        · exact ⟨u, v, a, b, by omega, e⟩
      · rintro ⟨u, v, a, b, c, e1, e2, e3⟩
        by_cases cv : v < z
        · exact .inr ⟨u, v, a, b, cv, e1, e2, e3⟩
        · left
          obtain rfl : v = z := by omega
          have n1 := l3 u a
          have n2 := e3 last l1
          omega
    by_cases cD : z = D
    · subst cD
      obtain ⟨R, r1, r2, r3⟩ := ih (z + 1) (by omega) (by omega) (PUT G ((z : Int) - last)) (z : Int) (by have := put_length ((z : Int) - last) G; omega) (put_rise _ _ hr) (mark (.inr rfl)) (fun h => absurd h (by omega))
      refine ⟨R, ?_, r2, r3⟩
      apply Ev.succ
      simp only [spec_GapsOf.l1, if_pos (show (z : Int) ≤ (z : Int) by omega), if_true, es, ei]
      exact Ev.bind hp r1
    · by_cases cS : (z : Int) ∈ S
      · obtain ⟨R, r1, r2, r3⟩ := ih (z + 1) (by omega) (by omega) (PUT G ((z : Int) - last)) (z : Int) (by have := put_length ((z : Int) - last) G; omega) (put_rise _ _ hr) (mark (.inl cS)) (fun _ => ⟨cS, by omega, fun y _ => by omega⟩)
        refine ⟨R, ?_, r2, r3⟩
        apply Ev.succ
        simp only [spec_GapsOf.l1, if_pos (show (z : Int) ≤ (D : Int) by omega), if_neg (show ¬ (z : Int) = (D : Int) by omega), if_pos (show 0 ≤ (z : Int) by omega), mk_length, if_pos (show (z : Int) < (D : Int) by omega), mk_get (S := S) (show 0 ≤ (z : Int) by omega) (show (z : Int) < (D : Int) by omega), decide_eq_true cS, if_true, es, ei]
        exact Ev.bind hp r1
      · obtain ⟨R, r1, r2, r3⟩ := ih (z + 1) (by omega) (by omega) G last (by omega) hr (fun g => by
          rw [hm]
          constructor
          · rintro ⟨u, v, a, b, c, e⟩; exact ⟨u, v, a, b, by omega, e⟩
          · rintro ⟨u, v, a, b, c, e⟩
            refine ⟨u, v, a, b, ?_, e⟩
            rcases b with b | b
            · have : v ≠ z := fun h => cS (h ▸ b)
              omega
            · omega) (fun _ => ⟨l1, by omega, fun y hy h => by
              have : y ≠ z := fun h => cS (h ▸ hy)
              exact l3 y hy (by omega)⟩)
        refine ⟨R, ?_, r2, r3⟩
        apply Ev.succ
        simp only [spec_GapsOf.l1, if_pos (show (z : Int) ≤ (D : Int) by omega), if_neg (show ¬ (z : Int) = (D : Int) by omega), if_pos (show 0 ≤ (z : Int) by omega), mk_length, if_pos (show (z : Int) < (D : Int) by omega), mk_get (S := S) (show 0 ≤ (z : Int) by omega) (show (z : Int) < (D : Int) by omega), decide_eq_false cS, Bool.false_eq_true, if_false, ei]
        exact r1
theorem gapsS_l0 (a : Int) (D n : Nat) (hD : 1 ≤ D ∧ D ≤ 1000) (ha : 0 ≤ a ∧ a ≤ 1000) (hn : 1 ≤ n ∧ n ≤ 1000) : ∀ (d i : Nat), i + d = n → (PTS a D i).Nodup → Ev (fun k => spec_GapsOf.l0 k a (D : Int) (n : Int) (MK (PTS a D i) D) (i : Int)) (if (PTS a D n).Nodup then (GS a D n, true) else ([], false)) := by
  intro d
  induction d with
  | zero =>
    intro i hi hnd
    obtain rfl : i = n := by omega
    rw [if_pos hnd]
    have hS : ∀ x ∈ PTS a D i, 0 ≤ x ∧ x < (D : Int) := fun x hx => pts_rng (by omega) hx
    obtain ⟨R, r1, r2, r3⟩ := gapsS_l1 (PTS a D i) D hD hS D 1 (by omega) (by omega) [] 0 (by simp) (by simp) (fun g => by
      constructor
      · intro h; simp at h
      · rintro ⟨u, v, h1, h2, h3, h4, _⟩
        have := hS u h1
        omega) (fun _ => ⟨mem_pts.2 ⟨0, by omega, pos_zero a D⟩, by omega, fun y _ => by omega⟩)
    have e : R = GS a D i := rise_ext _ _ r2 (gs_rise ..) fun x => by rw [r3, gs_mem, ds_gap (by omega) hnd]
    rw [← e]
    apply Ev.succ
    simp only [spec_GapsOf.l0, if_neg (show ¬ (i : Int) < (i : Int) by omega)]
    exact r1
  | succ d ih =>
    intro i hi hnd
    have hp := pos_rng a (show 0 < (D : Int) by omega) i
    have ei : wrap64 ((i : Int) + 1) = ((i + 1 : Nat) : Int) := by rw [w64 (by omega) (by omega)]; omega
    apply Ev.succ
    simp only [spec_GapsOf.l0, if_pos (show (i : Int) < (n : Int) by omega), if_neg (show ¬ (D : Int) = 0 by omega), pos_codeS (show 1 ≤ (D : Int) ∧ (D : Int) ≤ 1000 by omega) ha (show i ≤ 1000 by omega), if_pos hp.1, mk_length, if_pos hp.2, mk_get hp.1 hp.2, mk_set hp.1 hp.2, pts_succS, ei]
    by_cases c : pos a D i ∈ PTS a D i
    · simp only [decide_eq_true c, if_true]
      rw [if_neg]
      · exact Ev.now _
      · intro h
        obtain ⟨j, hj, e⟩ := mem_pts.1 c
        exact pos_ne (by omega) ((apart_nodup (by omega)).2 h) hj (by omega) e
    · simp only [decide_eq_false c, Bool.false_eq_true, if_false]
      refine ih (i + 1) (by omega) ?_
      rw [← pts_succS, List.nodup_append]
      refine ⟨hnd, by simp, fun x hx y hy e => ?_⟩
      simp only [List.mem_singleton] at hy
      subst hy; subst e
      exact c hx
theorem mk_none (D : Nat) : List.replicate D false = MK [] D := by
  apply List.ext_getElem
  · simp [MK]
  · intro i h1 h2
    simp [MK]
theorem gapsS_ev (a D n : Int) (ha : -9223372036854775808 ≤ a ∧ a ≤ 9223372036854775807) (hD : -9223372036854775808 ≤ D ∧ D ≤ 9223372036854775807) : Ev (fun k => spec_GapsOf.f k a D n) (GAPS a D n) := by
  unfold spec_GapsOf.f GAPS okG
  rw [in_eq]
  simp only [Option.bind_some]
  by_cases h1 : 1 ≤ D ∧ D ≤ 1000
  · rw [w64 (show (-9223372036854775808 : Int) ≤ D - 1 by omega) (by omega), in_eq]
    simp only [Option.bind_some, decide_eq_true h1, if_true]
    by_cases h2 : 0 ≤ a ∧ a ≤ D - 1
    · simp only [decide_eq_true h2, if_true, in_eq, Option.bind_some]
      by_cases h3 : 1 ≤ n ∧ n ≤ D
      · obtain ⟨m, rfl⟩ := Int.eq_ofNat_of_zero_le (show 0 ≤ n by omega)
        obtain ⟨E, rfl⟩ := Int.eq_ofNat_of_zero_le (show 0 ≤ D by omega)
        have := gapsS_l0 a E m (by omega) (by omega) (by omega) m 0 (by omega) (by simp [PTS])
        apply Ev.succ
        simp only [decide_eq_true h3, spec_GapsOf.j0, Bool.not_true, Bool.false_eq_true, if_false, Bool.and_true, if_true, Int.toNat_natCast, if_pos (show 0 ≤ (E : Int) by omega), if_pos (show E ≤ 281474976710656 by omega), mk_none]
        exact this
      · apply Ev.succ
        simp only [decide_eq_false h3, spec_GapsOf.j0, Bool.not_false, if_true, Bool.and_false, Bool.false_eq_true, if_false]
        exact Ev.now _
    · apply Ev.succ
      simp only [decide_eq_false h2, spec_GapsOf.j0, Bool.false_eq_true, if_false, if_true, Bool.and_false, Bool.false_and]
      exact Ev.now _
  · apply Ev.succ
    simp only [decide_eq_false h1, spec_GapsOf.j0, Bool.false_eq_true, if_false, if_true, Bool.false_and]
    exact Ev.now _

/-! impl.within -/
theorem within_eq (a b c : Int) : impl_within.f a b c = some (decide (b ≤ a ∧ a ≤ c)) := by
  unfold impl_within.f
  by_cases h : b ≤ a
  · rw [if_pos h]; simp [h]
  · rw [if_neg h]; simp [h]

/-! slices.Sort   int64,int64  -/
theorem sort_eq {l : List Int} (h0 : 0 < l.length) (h : l.length < 4611686018427387904) : slices_Sort_int64_int64.f l = some (SORT l) := by
  unfold slices_Sort_int64_int64.f
  rw [if_neg (fun e => by rw [e] at h0; simp at h0), if_pos h]
  rfl

/-! slices.Compact   int64,int64  -/
theorem compact_eq {l : List Int} (h0 : 0 < l.length) : slices_Compact_int64_int64.f l = some (Go.Lib.compact l) := by
  unfold slices_Compact_int64_int64.f
  rw [if_neg (fun e => by rw [e] at h0; simp at h0)]

/-! impl.GapsOf -/
theorem pts_succ (a D : Int) (i : Nat) : PTS a D i ++ [pos a D i] = PTS a D (i + 1) := by simp [PTS, List.range_succ]
theorem pos_code {a D : Int} {i : Nat} (hD : 1 ≤ D ∧ D ≤ 1000) (ha : 0 ≤ a ∧ a ≤ 1000) (hi : i ≤ 1000) : Int.tmod (wrap64 ((i : Int) * a)) D = pos a D i := by
  have h1 : 0 ≤ (i : Int) * a := Int.mul_nonneg (by omega) ha.1
  have h2 : (i : Int) * a ≤ 1000 * 1000 := Int.mul_le_mul (by omega) ha.2 ha.1 (by omega)
  rw [w64 (by omega) (by omega), Int.tmod_eq_emod_of_nonneg h1]
  rfl
theorem gapsI_l1 (a D : Int) (n : Nat) (hD : 1 ≤ D ∧ D ≤ 1000) (hn : 1 ≤ n ∧ n ≤ 1000) : ∀ (d i : Nat), i + d = n → Ev (fun k => impl_GapsOf.l1 k (SORT (PTS a D n) ++ [D]) ((DS a D n).take i) ((i : Int) + 1)) (if (PTS a D n).Nodup then (GS a D n, true) else ([], false)) := by
  have hL : (SORT (PTS a D n) ++ [D]).length = n + 1 := by rw [List.length_append, sort_length, pts_length]; rfl
  intro d
  induction d with
  | zero =>
    intro i hi
    have hsl : 0 < (SORT (DS a D n)).length := by rw [sort_length, ds_length]; omega
    apply Ev.succ
    simp only [impl_GapsOf.l1]
    rw [List.take_of_length_le (by rw [ds_length]; omega)]
    simp only [hL, if_neg (show ¬ ((i : Int) + 1 < ((n + 1 : Nat) : Int)) by omega)]
    rw [sort_eq (show 0 < (DS a D n).length by rw [ds_length]; omega) (by rw [ds_length]; omega)]
    simp only [Option.bind_some, ds_length, if_pos (show (0 : Int) < (n : Int) by omega)]
    have hz := ds_zero (a := a) (n := n) (show 0 < D by omega) hn.1
    have hr : rd (SORT (DS a D n)) 0 = (SORT (DS a D n)).getD 0 0 := rfl
    by_cases c : (PTS a D n).Nodup
    · simp only [hr, if_neg (show ¬ (SORT (DS a D n)).getD 0 0 = 0 from fun e => hz.1 e c), if_pos c, compact_eq hsl, Option.bind_some]
      exact Ev.now _
    · simp only [hr, if_pos (hz.2 c), if_neg c]
      exact Ev.now _
  | succ d ih =>
    intro i hi
    have hs : (SORT (PTS a D n)).length = n := by rw [sort_length, pts_length]
    have r1 : rd (SORT (PTS a D n) ++ [D]) ((i : Int) + 1) = (SORT (PTS a D n) ++ [D]).getD (i + 1) 0 := by unfold rd; rw [show ((i : Int) + 1).toNat = i + 1 by omega]
    have r0 : rd (SORT (PTS a D n) ++ [D]) (i : Int) = (SORT (PTS a D n) ++ [D]).getD i 0 := by unfold rd; rw [show (i : Int).toNat = i by omega]
    have hget : (DS a D n).getD i 0 = (SORT (PTS a D n) ++ [D]).getD (i + 1) 0 - (SORT (PTS a D n) ++ [D]).getD i 0 := by
      unfold DS DIF
      rw [getD_range _ _ (by omega)]
    have hb := dif_rng (show 0 < D by omega) (getD_mem (l := DS a D n) (i := i) (d := 0) (by rw [ds_length]; omega))
    have ht : (DS a D n).take i ++ [(DS a D n).getD i 0] = (DS a D n).take (i + 1) := by
      rw [List.take_succ_eq_append_getElem (by rw [ds_length]; omega)]
      congr 2
      simp [List.getD_eq_getElem?_getD, ds_length, show i < n by omega]
    have := ih (i + 1) (by omega)
    apply Ev.succ
    simp only [impl_GapsOf.l1, hL, if_pos (show ((i : Int) + 1 < ((n + 1 : Nat) : Int)) by omega), if_pos (show 0 ≤ (i : Int) + 1 by omega), show (i : Int) + 1 - 1 = (i : Int) by omega, w64 (show (-9223372036854775808 : Int) ≤ (i : Int) by omega) (by omega), if_pos (show 0 ≤ (i : Int) by omega), if_pos (show ((i : Int) < ((n + 1 : Nat) : Int)) by omega), r1, r0, ← hget, w64 (show (-9223372036854775808 : Int) ≤ (DS a D n).getD i 0 by omega) (by omega), ht]
    simp only [if_pos (show ((DS a D n).take i).length < 17592186044416 by rw [List.length_take]; omega), w64 (show (-9223372036854775808 : Int) ≤ (i : Int) + 1 + 1 by omega) (by omega)]
    exact this
theorem gapsI_l0 (a D : Int) (n : Nat) (hD : 1 ≤ D ∧ D ≤ 1000) (ha : 0 ≤ a ∧ a ≤ 1000) (hn : 1 ≤ n ∧ n ≤ 1000) : ∀ (d i : Nat), i + d = n → Ev (fun k => impl_GapsOf.l0 k a D (PTS a D i) (n : Int) (i : Int)) (if (PTS a D n).Nodup then (GS a D n, true) else ([], false)) := by
  intro d
  induction d with
  | zero =>
    intro i hi
    obtain rfl : i = n := by omega
    have h1 := gapsI_l1 a D i hD hn i 0 (by omega)
    apply Ev.succ
    simp only [impl_GapsOf.l0, if_neg (show ¬ (i : Int) < (i : Int) by omega)]
    rw [sort_eq (show 0 < (PTS a D i).length by rw [pts_length]; omega) (by rw [pts_length]; omega)]
    have hr : rd (SORT (PTS a D i)) 0 = 0 := first_zero (by omega) hn.1
    simp only [Option.bind_some, pts_length, sort_length, if_pos (show (0 : Int) < (i : Int) by omega), if_pos (show i < 17592186044416 by omega), hr, Int.zero_add, w64 (show (-9223372036854775808 : Int) ≤ D by omega) (by omega)]
    exact h1
  | succ d ih =>
    intro i hi
    apply Ev.succ
    simp only [impl_GapsOf.l0, if_pos (show (i : Int) < (n : Int) by omega), if_neg (show ¬ D = 0 by omega), pts_length, if_pos (show i < 17592186044416 by omega), pos_code hD ha (show i ≤ 1000 by omega), pts_succ, w64 (show (-9223372036854775808 : Int) ≤ (i : Int) + 1 by omega) (by omega)]
    exact ih (i + 1) (by omega)
theorem gapsI_ev (a D n : Int) (ha : -9223372036854775808 ≤ a ∧ a ≤ 9223372036854775807) (hD : -9223372036854775808 ≤ D ∧ D ≤ 9223372036854775807) : Ev (fun k => impl_GapsOf.f k a D n) (GAPS a D n) := by
  unfold impl_GapsOf.f GAPS okG
  rw [within_eq]
  simp only [Option.bind_some]
  by_cases h1 : 1 ≤ D ∧ D ≤ 1000
  · rw [w64 (show (-9223372036854775808 : Int) ≤ D - 1 by omega) (by omega), within_eq]
    simp only [Option.bind_some, decide_eq_true h1, if_true]
    by_cases h2 : 0 ≤ a ∧ a ≤ D - 1
    · simp only [decide_eq_true h2, if_true, within_eq, Option.bind_some]
      by_cases h3 : 1 ≤ n ∧ n ≤ D
      · obtain ⟨m, rfl⟩ := Int.eq_ofNat_of_zero_le (show 0 ≤ n by omega)
        have := gapsI_l0 a D m h1 (by omega) (by omega) m 0 (by omega)
        apply Ev.succ
        simp only [decide_eq_true h3, impl_GapsOf.j0, Bool.not_true, Bool.false_eq_true, if_false, Bool.and_true, if_true, Int.toNat_natCast]
        exact this
      · apply Ev.succ
        simp only [decide_eq_false h3, impl_GapsOf.j0, Bool.not_false, if_true, Bool.and_false, Bool.false_eq_true, if_false]
        exact Ev.now _
    · apply Ev.succ
      simp only [decide_eq_false h2, impl_GapsOf.j0, Bool.false_eq_true, if_false, if_true, Bool.and_false, Bool.false_and]
      exact Ev.now _
  · apply Ev.succ
    simp only [decide_eq_false h1, impl_GapsOf.j0, Bool.false_eq_true, if_false, if_true, Bool.false_and]
    exact Ev.now _

/-! laws.markInt64S -/
theorem mark_l0 (l : List Int) (m : Int) (hl : l.length ≤ 140737488355328) (h0 : 0 ≤ m) (h1 : m ≤ 4611686018427387904) : ∀ (d i : Nat), d + i = l.length → Ev (fun k => laws_markInt64S.l0 k (MARKS m i ++ l.drop i) (m + (i : Int)) i) (m + (l.length : Int), MARKS m l.length) := by
  intro d
  induction d with
  | zero =>
    intro i hd
    apply Ev.succ
    simp only [laws_markInt64S.l0, if_neg (show ¬ (i : Int) < ((MARKS m i ++ l.drop i).length : Int) by simp [MARKS_length]; omega)]
    rw [show i = l.length by omega, List.drop_length, List.append_nil]
    exact Ev.now _
  | succ d ih =>
    intro i hd
    have hi : i < l.length := by omega
    apply Ev.succ
    simp only [laws_markInt64S.l0, if_pos (show (i : Int) < ((MARKS m i ++ l.drop i).length : Int) by simp [MARKS_length]; omega), if_pos (show 0 ≤ (i : Int) by omega), Int.toNat_natCast, marks_step l m i hi, w64 (show (-9223372036854775808) ≤ (i : Int) + 1 by omega) (by omega), w64 (show (-9223372036854775808) ≤ m + (i : Int) + 1 by omega) (by omega)]
    have := ih (i + 1) (by omega)
    rw [Int.natCast_succ, ← Int.add_assoc] at this
    exact this
theorem markInt64S_ev (l : List Int) (m : Int) (hl : l.length ≤ 140737488355328) (h0 : 0 ≤ m) (h1 : m ≤ 4611686018427387904) : Ev (fun k => laws_markInt64S.f k l m) (m + (l.length : Int), MARKS m l.length) := by
  have := mark_l0 l m hl h0 h1 l.length 0 (by omega)
  simpa [laws_markInt64S.f, MARKS] using this

/-! laws.heldInt64S -/
theorem held_l0 (m : Int) (n : Nat) (hl : n ≤ 140737488355328) (h0 : 0 ≤ m) (h1 : m ≤ 4611686018427387904) : ∀ (d i : Nat), d + i = n → Ev (fun k => laws_heldInt64S.l0 k (MARKS m n) (m + (i : Int)) i) (m + (n : Int)) := by
  intro d
  induction d with
  | zero =>
    intro i hd
    apply Ev.succ
    simp only [laws_heldInt64S.l0, MARKS_length, if_neg (show ¬ (i : Int) < (n : Int) by omega)]
    rw [show i = n by omega]
    exact Ev.now _
  | succ d ih =>
    intro i hd
    have hi : i < (MARKS m n).length := by rw [MARKS_length]; omega
    apply Ev.succ
    simp only [laws_heldInt64S.l0, MARKS_length, if_pos (show (i : Int) < (n : Int) by omega), if_pos (show 0 ≤ (i : Int) by omega), rd_get hi, MARKS_get m n i hi, if_true, w64 (show (-9223372036854775808) ≤ (i : Int) + 1 by omega) (by omega), w64 (show (-9223372036854775808) ≤ m + (i : Int) + 1 by omega) (by omega)]
    have := ih (i + 1) (by omega)
    rw [Int.natCast_succ, ← Int.add_assoc] at this
    exact this
theorem heldInt64S_ev (m : Int) (n : Nat) (hl : n ≤ 140737488355328) (h0 : 0 ≤ m) (h1 : m ≤ 4611686018427387904) : Ev (fun k => laws_heldInt64S.f k (MARKS m n) m) (m + (n : Int)) := by
  have := held_l0 m n hl h0 h1 n 0 (by omega)
  simpa [laws_heldInt64S.f] using this

/-! the law -/
theorem GAPS_len (a D n : Int) : (GAPS a D n).1.length ≤ 1000 := by
  unfold GAPS
  cases h : okG a D n with
  | false => simp
  | true =>
    simp only [okG, Bool.and_eq_true, decide_eq_true_eq] at h
    simp only [if_true]
    split
    · have := gs_length a D n.toNat
      simp only; omega
    · simp
theorem FnExactGapsOf : laws_FnExactGapsOf.Pure := by
  intro a D n wa wD wn
  have wa := wf64 wa
  have wD := wf64 wD
  apply Ev.rounds
  unfold laws_FnExactGapsOf.f
  have hs := gapsS_ev a D n wa wD
  have hi := gapsI_ev a D n wa wD
  have hl := GAPS_len a D n
  generalize GAPS a D n = R at *
  obtain ⟨G, ok⟩ := R
  simp only at hl
  have he := eqInt64S_ev G G (by omega)
  refine Ev.bind hs (Ev.bind hi (Ev.bind he ?_))
  simp only [decide_true, if_true, bne_self_eq_false]
  apply Ev.succ
  simp only [laws_FnExactGapsOf.j0, Bool.false_eq_true, if_false]
  refine Ev.bind (markInt64S_ev G 1 (by omega) (by omega) (by omega)) ?_
  refine Ev.bind (heldInt64S_ev 1 G.length (by omega) (by omega) (by omega)) ?_
  simp only [if_neg (show ¬ (1 + (G.length : Int)) < 0 by omega), if_true]
  refine Ev.bind hi (Ev.bind he ?_)
  simp only [decide_true, if_true, bne_self_eq_false]
  apply Ev.succ
  simp only [laws_FnExactGapsOf.j1, Bool.false_eq_true, if_false]
  refine Ev.bind (heldInt64S_ev 1 G.length (by omega) (by omega) (by omega)) ?_
  simp only [if_neg (show ¬ (1 + (G.length : Int)) < 0 by omega), if_true]
  exact Ev.now _


end Go.Proofs.Ytkmghekffehimaa.Pure
