/- Proved: the pure half of the law FnGaps: the printed functions answer true, for every input. No condition. -/
import Derived.Test.YtkmghekffehimaaPFnGapsx2
import Derived.Test.YtkmghekffehimaaBase
import Derived.Test.YtkmghekffehimaaLists
import Derived.Test.YtkmghekffehimaaGap
import Derived.Test.YtkmghekffehimaaPoints
import Derived.Test.YtkmghekffehimaaGcd
import Derived.Test.YtkmghekffehimaaSource
namespace Go.Proofs.Ytkmghekffehimaa.Pure
open Go.RowKit Go.Proofs.Ytkmghekffehimaa.PFnGaps Go.Proofs.YtkmghekffehimaaW.PrintWords Go.Proofs.YtkmghekffehimaaW.PrintLast Go.Proofs.YtkmghekffehimaaW.PrintMore Go.Proofs.Ytkmghekffehimaa.Base
set_option linter.unusedVariables false
set_option linter.unusedSimpArgs false

/-! impl.within -/
theorem within_eq (a b c : Int) : impl_within.f a b c = some (decide (b ≤ a ∧ a ≤ c)) := by
  unfold impl_within.f
  by_cases h : b ≤ a
  · rw [if_pos h]; simp [h]
  · rw [if_neg h]; simp [h]

/-! slices.Sort   int64,int64  -/
theorem sort_eq {l : List Int} (h0 : 0 < l.length) (h : l.length < 4611686018427387904) : slices_Sort_int64_int64.f l = some (SORT l) := by
  unfold slices_Sort_int64_int64.f
  rw [if_neg (fun e => by rw [e] at h0; simp at h0), if_pos h]
  rfl

/-! slices.Compact   int64,int64  -/
theorem compact_eq {l : List Int} (h0 : 0 < l.length) : slices_Compact_int64_int64.f l = some (Go.Lib.compact l) := by
  unfold slices_Compact_int64_int64.f
  rw [if_neg (fun e => by rw [e] at h0; simp at h0)]

/-! impl.GapsOf -/
theorem pts_succ (a D : Int) (i : Nat) : PTS a D i ++ [pos a D i] = PTS a D (i + 1) := by simp [PTS, List.range_succ]
theorem pos_code {a D : Int} {i : Nat} (hD : 1 ≤ D ∧ D ≤ 1000) (ha : 0 ≤ a ∧ a ≤ 1000) (hi : i ≤ 1000) : Int.tmod (wrap64 ((i : Int) * a)) D = pos a D i := by
  have h1 : 0 ≤ (i : Int) * a := Int.mul_nonneg (by omega) ha.1
  have h2 : (i : Int) * a ≤ 1000 * 1000 := Int.mul_le_mul (by omega) ha.2 ha.1 (by omega)
  rw [w64 (by omega) (by omega), Int.tmod_eq_emod_of_nonneg h1]
  rfl
theorem gapsI_l1 (a D : Int) (n : Nat) (hD : 1 ≤ D ∧ D ≤ 1000) (hn : 1 ≤ n ∧ n ≤ 1000) : ∀ (d i : Nat), i + d = n → Ev (fun k => impl_GapsOf.l1 k (SORT (PTS a D n) ++ [D]) ((DS a D n).take i) ((i : Int) + 1)) (if (PTS a D n).Nodup then (GS a D n, true) else ([], false)) := by
  have hL : (SORT (PTS a D n) ++ [D]).length = n + 1 := by rw [List.length_append, sort_length, pts_length]; rfl
  intro d
  induction d with
  | zero =>
    intro i hi
    have hsl : 0 < (SORT (DS a D n)).length := by rw [sort_length, ds_length]; omega
    apply Ev.succ
    simp only [impl_GapsOf.l1]
    rw [List.take_of_length_le (by rw [ds_length]; omega)]
    simp only [hL, if_neg (show ¬ ((i : Int) + 1 < ((n + 1 : Nat) : Int)) by omega)]
    rw [sort_eq (show 0 < (DS a D n).length by rw [ds_length]; omega) (by rw [ds_length]; omega)]
    simp only [Option.bind_some, ds_length, if_pos (show (0 : Int) < (n : Int) by omega)]
    have hz := ds_zero (a := a) (n := n) (show 0 < D by omega) hn.1
    have hr : rd (SORT (DS a D n)) 0 = (SORT (DS a D n)).getD 0 0 := rfl
    by_cases c : (PTS a D n).Nodup
    · simp only [hr, if_neg (show ¬ (SORT (DS a D n)).getD 0 0 = 0 from fun e => hz.1 e c), if_pos c, compact_eq hsl, Option.bind_some]
      exact Ev.now _
    · simp only [hr, if_pos (hz.2 c), if_neg c]
      exact Ev.now _
  | succ d ih =>
    intro i hi
    have hs : (SORT (PTS a D n)).length = n := by rw [sort_length, pts_length]
    have r1 : rd (SORT (PTS a D n) ++ [D]) ((i : Int) + 1) = (SORT (PTS a D n) ++ [D]).getD (i + 1) 0 := by unfold rd; rw [show ((i : Int) + 1).toNat = i + 1 by omega]
    have r0 : rd (SORT (PTS a D n) ++ [D]) (i : Int) = (SORT (PTS a D n) ++ [D]).getD i 0 := by unfold rd; rw [show (i : Int).toNat = i by omega]
    have hget : (DS a D n).getD i 0 = (SORT (PTS a D n) ++ [D]).getD (i + 1) 0 - (SORT (PTS a D n) ++ [D]).getD i 0 := by
      unfold DS DIF
      rw [getD_range _ _ (by omega)]
    have hb := dif_rng (show 0 < D by omega) (getD_mem (l := DS a D n) (i := i) (d := 0) (by rw [ds_length]; omega))
    have ht : (DS a D n).take i ++ [(DS a D n).getD i 0] = (DS a D n).take (i + 1) := by
      rw [List.take_succ_eq_append_getElem (by rw [ds_length]; omega)]
      congr 2
      simp [List.getD_eq_getElem?_getD, ds_length, show i < n by omega]
    have := ih (i + 1) (by omega)
    apply Ev.succ
    simp only [impl_GapsOf.l1, hL, if_pos (show ((i : Int) + 1 < ((n + 1 : Nat) : Int)) by omega), if_pos (show 0 ≤ (i : Int) + 1 by omega), show (i : Int) + 1 - 1 = (i : Int) by omega, w64 (show (-9223372036854775808 : Int) ≤ (i : Int) by omega) (by omega), if_pos (show 0 ≤ (i : Int) by omega), if_pos (show ((i : Int) < ((n + 1 : Nat) : Int)) by omega), r1, r0, ← hget, w64 (show (-9223372036854775808 : Int) ≤ (DS a D n).getD i 0 by omega) (by omega), ht]
    simp only [if_pos (show ((DS a D n).take i).length < 17592186044416 by rw [List.length_take]; omega), w64 (show (-9223372036854775808 : Int) ≤ (i : Int) + 1 + 1 by omega) (by omega)]
    exact this
theorem gapsI_l0 (a D : Int) (n : Nat) (hD : 1 ≤ D ∧ D ≤ 1000) (ha : 0 ≤ a ∧ a ≤ 1000) (hn : 1 ≤ n ∧ n ≤ 1000) : ∀ (d i : Nat), i + d = n → Ev (fun k => impl_GapsOf.l0 k a D (PTS a D i) (n : Int) (i : Int)) (if (PTS a D n).Nodup then (GS a D n, true) else ([], false)) := by
  intro d
  induction d with
  | zero =>
    intro i hi
    obtain rfl : i = n := by omega
    have h1 := gapsI_l1 a D i hD hn i 0 (by omega)
    apply Ev.succ
    simp only [impl_GapsOf.l0, if_neg (show ¬ (i : Int) < (i : Int) by omega)]
    rw [sort_eq (show 0 < (PTS a D i).length by rw [pts_length]; omega) (by rw [pts_length]; omega)]
    have hr : rd (SORT (PTS a D i)) 0 = 0 := first_zero (by omega) hn.1
    simp only [Option.bind_some, pts_length, sort_length, if_pos (show (0 : Int) < (i : Int) by omega), if_pos (show i < 17592186044416 by omega), hr, Int.zero_add, w64 (show (-9223372036854775808 : Int) ≤ D by omega) (by omega)]
    exact h1
  | succ d ih =>
    intro i hi
    apply Ev.succ
    simp only [impl_GapsOf.l0, if_pos (show (i : Int) < (n : Int) by omega), if_neg (show ¬ D = 0 by omega), pts_length, if_pos (show i < 17592186044416 by omega), pos_code hD ha (show i ≤ 1000 by omega), pts_succ, w64 (show (-9223372036854775808 : Int) ≤ (i : Int) + 1 by omega) (by omega)]
    exact ih (i + 1) (by omega)
theorem gapsI_ev (a D n : Int) (ha : -9223372036854775808 ≤ a ∧ a ≤ 9223372036854775807) (hD : -9223372036854775808 ≤ D ∧ D ≤ 9223372036854775807) : Ev (fun k => impl_GapsOf.f k a D n) (GAPS a D n) := by
  unfold impl_GapsOf.f GAPS okG
  rw [within_eq]
  simp only [Option.bind_some]
  by_cases h1 : 1 ≤ D ∧ D ≤ 1000
  · rw [w64 (show (-9223372036854775808 : Int) ≤ D - 1 by omega) (by omega), within_eq]
    simp only [Option.bind_some, decide_eq_true h1, if_true]
    by_cases h2 : 0 ≤ a ∧ a ≤ D - 1
    · simp only [decide_eq_true h2, if_true, within_eq, Option.bind_some]
      by_cases h3 : 1 ≤ n ∧ n ≤ D
      · obtain ⟨m, rfl⟩ := Int.eq_ofNat_of_zero_le (show 0 ≤ n by omega)
        have := gapsI_l0 a D m h1 (by omega) (by omega) m 0 (by omega)
        apply Ev.succ
        simp only [decide_eq_true h3, impl_GapsOf.j0, Bool.not_true, Bool.false_eq_true, if_false, Bool.and_true, if_true, Int.toNat_natCast]
        exact this
      · apply Ev.succ
        simp only [decide_eq_false h3, impl_GapsOf.j0, Bool.not_false, if_true, Bool.and_false, Bool.false_eq_true, if_false]
        exact Ev.now _
    · apply Ev.succ
      simp only [decide_eq_false h2, impl_GapsOf.j0, Bool.false_eq_true, if_false, if_true, Bool.and_false, Bool.false_and]
      exact Ev.now _
  · apply Ev.succ
    simp only [decide_eq_false h1, impl_GapsOf.j0, Bool.false_eq_true, if_false, if_true, Bool.false_and]
    exact Ev.now _

/-! the law -/
theorem rd_byteG {c : List Int} (hc : ∀ x ∈ c, 0 ≤ x ∧ x ≤ 255) (i : Int) : 0 ≤ rd c i ∧ rd c i ≤ 255 := by
  unfold rd
  by_cases h : i.toNat < c.length
  · rw [List.getD_eq_getElem?_getD, List.getElem?_eq_getElem h]
    exact hc _ (List.getElem_mem h)
  · rw [List.getD_eq_getElem?_getD, List.getElem?_eq_none (by omega)]
    simp
theorem at_okG {c : List Int} (hc : ∀ x ∈ c, 0 ≤ x ∧ x ≤ 255) {i n : Int} (h0 : 0 ≤ i ∧ i ≤ 100) (hn : 1 ≤ n ∧ n ≤ 1000) : ∃ v, laws_b10At.f c i n = some v ∧ 0 ≤ v ∧ v < n := by
  unfold laws_b10At.f
  by_cases c1 : n ≤ 1
  · rw [if_pos c1]; exact ⟨0, rfl, by omega, by omega⟩
  · rw [if_neg c1]
    have hm : ∀ x : Int, 0 ≤ x → 0 ≤ x.tmod n ∧ x.tmod n < n := fun x hx => ⟨Int.tmod_nonneg n hx, Int.tmod_lt_of_pos x (by omega)⟩
    by_cases c2 : i < (c.length : Int)
    · have hb := rd_byteG hc i
      rw [if_pos c2, if_pos h0.1, if_neg (by omega), w64 (by omega) (by omega)]
      exact ⟨_, rfl, (hm _ hb.1).1, (hm _ hb.1).2⟩
    · rw [if_neg c2, if_neg (by omega), w64 (show -9223372036854775808 ≤ i * 37 by omega) (by omega), w64 (by omega) (by omega)]
      exact ⟨_, rfl, (hm _ (by omega)).1, (hm _ (by omega)).2⟩
theorem gcdG_l0 : ∀ (n : Nat) (a b : Int), b.natAbs ≤ n → 0 ≤ a → 0 ≤ b → Ev (fun k => laws_b10Gcd.l0 k a b) (Int.gcd a b : Int) := by
  intro n
  induction n with
  | zero =>
    intro a b hn ha hb
    have e : b = 0 := by omega
    subst e
    apply Ev.succ
    simp only [laws_b10Gcd.l0, if_neg (show ¬ (0 : Int) > 0 by omega)]
    refine (Ev.now _).to ?_
    rw [Int.gcd_zero_right]
    omega
  | succ n ih =>
    intro a b hn ha hb
    by_cases hz : b = 0
    · subst hz
      apply Ev.succ
      simp only [laws_b10Gcd.l0, if_neg (show ¬ (0 : Int) > 0 by omega)]
      refine (Ev.now _).to ?_
      rw [Int.gcd_zero_right]
      omega
    · apply Ev.succ
      simp only [laws_b10Gcd.l0, if_pos (show b > 0 by omega), if_neg hz]
      have := tmod_abs_lt (a := a) hz
      exact (ih b (a.tmod b) (by omega) hb (Int.tmod_nonneg _ ha)).to (by rw [gcd_step])
theorem gcdG_ev (a b : Int) (ha : 0 ≤ a) (hb : 0 ≤ b) : Ev (fun k => laws_b10Gcd.f k a b) (Int.gcd a b : Int) := gcdG_l0 b.natAbs a b (Nat.le_refl _) ha hb
theorem three_len {A B : Int} (hA : 0 < A) (hB : 0 < B) : ∀ l : List Int, l.Pairwise (· < ·) → (∀ x ∈ l, x = A ∨ x = B ∨ x = A + B) → l.length ≤ 3 ∧ (l.length = 3 → rd l 2 = rd l 0 + rd l 1)
  | [], _, _ => by simp
  | [x], _, _ => by simp
  | [x, y], _, _ => by simp
  | [x, y, z], hr, h => by
    have h1 := h x (by simp); have h2 := h y (by simp); have h3 := h z (by simp)
    simp only [List.pairwise_cons, List.mem_cons, List.not_mem_nil, or_false, forall_eq_or_imp, forall_eq] at hr
    refine ⟨by simp, fun _ => ?_⟩
    show z = x + y
    omega
  | x :: y :: z :: w :: l, hr, h => by
    exfalso
    have h1 := h x (by simp); have h2 := h y (by simp); have h3 := h z (by simp); have h4 := h w (by simp)
    simp only [List.pairwise_cons, List.mem_cons, forall_eq_or_imp] at hr
    omega
theorem rise_get {l : List Int} (h : l.Pairwise (· < ·)) {x : Int} (hx : x ∈ l) : l.getD 0 0 ≤ x ∧ x ≤ l.getD (l.length - 1) 0 := by
  have h' : l.Pairwise (· ≤ ·) := h.imp fun h => by omega
  obtain ⟨i, hi, rfl⟩ := mem_getD hx
  exact ⟨le_get h' (Nat.zero_le _) hi, le_get h' (by omega) (by omega)⟩
theorem ds_sum {a D : Int} {n : Nat} (hD : 0 < D) (hn : 1 ≤ n) : (DS a D n).sum = D := by
  unfold DS
  rw [dif_sum (by simp)]
  have hs : (SORT (PTS a D n)).length = n := by rw [sort_length, pts_length]
  have h0 := first_zero (a := a) hD hn
  rw [getD_snoc (show 0 < (SORT (PTS a D n)).length by omega), h0, List.length_append]
  rw [show (SORT (PTS a D n)).length + [D].length - 1 = (SORT (PTS a D n)).length from rfl, getD_snoc_last]
  omega
/-- What the law says of the gaps. -/
theorem gs_law {a D : Int} {n : Nat} (hD : 0 < D) (hn : 1 ≤ n) (h : (PTS a D n).Nodup) : 1 ≤ (GS a D n).length ∧ (GS a D n).length ≤ 3 ∧ ((GS a D n).length = 3 → rd (GS a D n) 2 = rd (GS a D n) 0 + rd (GS a D n) 1) ∧ (∀ x ∈ GS a D n, 0 < x ∧ x ≤ D) ∧ (GS a D n).getD 0 0 * n ≤ D ∧ D ≤ (GS a D n).getD ((GS a D n).length - 1) 0 * n := by
  have hr := gs_rise a D n
  have hds : (DS a D n).length = n := ds_length a D n
  have hne : 1 ≤ (GS a D n).length := by
    have h1 : (DS a D n).getD 0 0 ∈ GS a D n := gs_mem.2 (getD_mem (by omega))
    cases hG : GS a D n with
    | nil => rw [hG] at h1; simp at h1
    | cons _ _ => simp
  have h3 : (GS a D n).length ≤ 3 ∧ ((GS a D n).length = 3 → rd (GS a D n) 2 = rd (GS a D n) 0 + rd (GS a D n) 1) := by
    by_cases c : 2 ≤ n
    · obtain ⟨A, B, hA, hB, key⟩ := gap_three hD c ((apart_nodup hD).2 h)
      exact three_len hA hB _ hr fun x hx => key x ((ds_gap hD h x).1 (gs_mem.1 hx))
    · have := gs_length a D n
      exact ⟨by omega, fun e => by omega⟩
  refine ⟨hne, h3.1, h3.2, fun x hx => ?_, ?_, ?_⟩
  · have h1 := gap_pos ((ds_gap hD h x).1 (gs_mem.1 hx))
    have h2 := dif_rng hD (gs_mem.1 hx)
    omega
  · have := sum_lo (lo := (GS a D n).getD 0 0) (DS a D n) fun x hx => (rise_get hr (gs_mem.2 hx)).1
    rw [hds, ds_sum hD hn] at this
    exact this
  · have := sum_hi (hi := (GS a D n).getD ((GS a D n).length - 1) 0) (DS a D n) fun x hx => (rise_get hr (gs_mem.2 hx)).2
    rw [hds, ds_sum hD hn] at this
    exact this
theorem FnGaps : laws_FnGaps.Pure := by
  intro c d _ _ hc _ _ hd
  have hc' : ∀ x ∈ c, 0 ≤ x ∧ x ≤ 255 := fun x hx => wfByte (hc x hx)
  have hd' : ∀ x ∈ d, 0 ≤ x ∧ x ≤ 255 := fun x hx => wfByte (hd x hx)
  apply Ev.rounds
  unfold laws_FnGaps.f laws_b10Long.f
  by_cases l1 : (c.length : Int) > 1048576
  · simp only [if_pos l1, Option.bind_some, if_true]
    exact Ev.now _
  by_cases l2 : (d.length : Int) > 1048576
  · simp only [if_neg l1, Option.bind_some, decide_eq_true l2, if_true]
    exact Ev.now _
  simp only [if_neg l1, Option.bind_some, decide_eq_false l2, Bool.false_eq_true, if_false]
  obtain ⟨t, e1, t0, t1⟩ := at_okG hc' (i := 0) (n := 200) (by omega) (by omega)
  simp only [e1, Option.bind_some, w64 (show (-9223372036854775808 : Int) ≤ 1 + t by omega) (by omega)]
  obtain ⟨a, e2, a0, a1⟩ := at_okG hc' (i := 1) (n := 1 + t) (by omega) (by omega)
  obtain ⟨m, e3, m0, m1⟩ := at_okG hd' (i := 0) (n := 1 + t) (by omega) (by omega)
  simp only [e2, e3, Option.bind_some, w64 (show (-9223372036854775808 : Int) ≤ 1 + m by omega) (by omega)]
  generalize hD : 1 + t = D at *
  generalize hn : 1 + m = n at *
  obtain ⟨N, rfl⟩ := Int.eq_ofNat_of_zero_le (show 0 ≤ n by omega)
  refine Ev.bind (gapsI_ev a D (N : Int) (by omega) (by omega)) (Ev.bind (gcdG_ev D a (by omega) a0) ?_)
  have hg : 0 < Int.gcd D a := Int.gcd_pos_of_ne_zero_left a (by omega)
  have hap := apart_iff (a := a) (D := D) (n := N) (by omega) a0 (by omega)
  rw [apart_nodup (by omega)] at hap
  have hdiv : wrap64 (Int.tdiv D (Int.gcd D a : Int)) = D / (Int.gcd D a : Int) := by
    rw [Int.tdiv_eq_ediv_of_nonneg (by omega)]
    have h1 : 0 ≤ D / (Int.gcd D a : Int) := Int.ediv_nonneg (by omega) (by omega)
    have h2 : D / (Int.gcd D a : Int) ≤ D := Int.ediv_le_self _ (by omega)
    exact w64 (by omega) (by omega)
  have hok : okG a D (N : Int) = true := by
    simp only [okG, Bool.and_eq_true, decide_eq_true_eq]; omega
  simp only [if_neg (show ¬ (Int.gcd D a : Int) = 0 by omega), hdiv, GAPS, hok, if_true, Int.toNat_natCast]
  by_cases c : (PTS a D N).Nodup
  · obtain ⟨g1, g2, g3, g4, g5, g6⟩ := gs_law (show 0 < D by omega) (show 1 ≤ N by omega) c
    have q0 := g4 _ (getD_mem (d := 0) (show 0 < (GS a D N).length by omega))
    have q2 := g4 _ (getD_mem (d := 0) (show (GS a D N).length - 1 < (GS a D N).length by omega))
    have r0 : rd (GS a D N) 0 = (GS a D N).getD 0 0 := rfl
    have rl : rd (GS a D N) (((GS a D N).length : Int) - 1) = (GS a D N).getD ((GS a D N).length - 1) 0 := by
      unfold rd; rw [show (((GS a D N).length : Int) - 1).toNat = (GS a D N).length - 1 by omega]
    have p0 : (GS a D N).getD 0 0 * (N : Int) ≤ 1000 * 1000 := Int.mul_le_mul (by omega) (by omega) (by omega) (by omega)
    have p1 : 0 ≤ (GS a D N).getD 0 0 * (N : Int) := Int.mul_nonneg (by omega) (by omega)
    have p2 : (GS a D N).getD ((GS a D N).length - 1) 0 * (N : Int) ≤ 1000 * 1000 := Int.mul_le_mul (by omega) (by omega) (by omega) (by omega)
    have p3 : 0 ≤ (GS a D N).getD ((GS a D N).length - 1) 0 * (N : Int) := Int.mul_nonneg (by omega) (by omega)
    have wl : wrap64 (((GS a D N).length : Int) - 1) = ((GS a D N).length : Int) - 1 := w64 (by omega) (by omega)
    simp only [if_pos c, decide_eq_true (hap.1 c), bne_self_eq_false, Bool.false_eq_true, if_false, if_true, if_neg (show ¬ ((GS a D N).length : Int) < 1 by omega), if_neg (show ¬ ((GS a D N).length : Int) > 3 by omega), rl, r0, w64 (show (-9223372036854775808 : Int) ≤ (GS a D N).getD 0 0 * (N : Int) by omega) (by omega), w64 (show (-9223372036854775808 : Int) ≤ (GS a D N).getD ((GS a D N).length - 1) 0 * (N : Int) by omega) (by omega), if_pos g5, wl, if_pos (show 0 ≤ ((GS a D N).length : Int) - 1 by omega), if_pos (show ((GS a D N).length : Int) - 1 < ((GS a D N).length : Int) by omega), if_pos (show 0 < ((GS a D N).length : Int) by omega), decide_eq_true (show (GS a D N).getD ((GS a D N).length - 1) 0 * (N : Int) ≥ D from g6)]
    by_cases e : ((GS a D N).length : Int) = 3
    · have g3 := g3 (by omega)
      rw [r0] at g3
      have q1 := g4 _ (getD_mem (d := 0) (show 1 < (GS a D N).length by omega))
      have r1 : rd (GS a D N) 1 = (GS a D N).getD 1 0 := rfl
      rw [r1] at g3
      rw [r1, w64 (show (-9223372036854775808 : Int) ≤ (GS a D N).getD 0 0 + (GS a D N).getD 1 0 by omega) (by omega)]
      simp only [if_pos e, if_pos (show (2 : Int) < ((GS a D N).length : Int) by omega), if_pos (show (1 : Int) < ((GS a D N).length : Int) by omega), if_pos g3]
      exact Ev.now _
    · simp only [if_neg e]
      exact Ev.now _
  · have : ¬ (N : Int) ≤ D / (Int.gcd D a : Int) := fun h => c (hap.2 h)
    simp only [if_neg c, decide_eq_false this, bne_self_eq_false, Bool.false_eq_true, if_false]
    exact Ev.now _


end Go.Proofs.Ytkmghekffehimaa.Pure
