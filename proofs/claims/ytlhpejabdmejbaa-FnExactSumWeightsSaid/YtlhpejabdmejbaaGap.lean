/- Plain lemmas: points on a circle, and the three gaps between them. No condition. -/
import Derived.Test.YtlhpejabdmejbaaLists
namespace Go.Proofs.Ytlhpejabdmejbaa.Base
open Go.RowKit Go.Proofs.YtlhpejabdmejbaaW.PrintWords Go.Proofs.YtlhpejabdmejbaaW.PrintLast Go.Proofs.YtlhpejabdmejbaaW.PrintMore
set_option linter.unusedVariables false
set_option linter.unusedSimpArgs false
/-- (x - y) mod D where the remainders' difference is one. -/
theorem sub_mod {D x y u v : Int} (hD : 0 < D) (hx : x % D = u) (hy : y % D = v) (h0 : 0 ≤ u - v) (h1 : u - v < D) : (x - y) % D = u - v := by
  have ex := Int.emod_add_mul_ediv x D
  have ey := Int.emod_add_mul_ediv y D
  have e : x - y = (u - v) + D * (x / D - y / D) := by rw [Int.mul_sub]; omega
  rw [e, Int.add_mul_emod_self_left]
  exact Int.emod_eq_of_lt h0 h1
theorem argmin (f : Nat → Int) : ∀ n, 1 ≤ n → ∃ p, 1 ≤ p ∧ p ≤ n ∧ ∀ k, 1 ≤ k → k ≤ n → f p ≤ f k
  | 0, h => absurd h (by omega)
  | 1, _ => ⟨1, by omega, by omega, fun k h1 h2 => by rw [show k = 1 by omega]; exact Int.le_refl _⟩
  | n + 2, _ => by
    obtain ⟨p, h1, h2, h3⟩ := argmin f (n + 1) (by omega)
    by_cases c : f p ≤ f (n + 2)
    · refine ⟨p, h1, by omega, fun k k1 k2 => ?_⟩
      by_cases e : k = n + 2
      · rw [e]; exact c
      · exact h3 k k1 (by omega)
    · refine ⟨n + 2, by omega, by omega, fun k k1 k2 => ?_⟩
      by_cases e : k = n + 2
      · rw [e]; exact Int.le_refl _
      · have := h3 k k1 (by omega); omega
/-- The three gaps. -/
theorem three {D a : Int} {N : Nat} (hD : 0 < D) (hN : 2 ≤ N) (hd : ∀ k : Nat, 1 ≤ k → k ≤ N - 1 → ((k : Int) * a) % D ≠ 0) :
    ∃ A B : Int, 0 < A ∧ 0 < B ∧ ∀ (i : Nat) (G : Int), i < N →
      (∃ k0 : Int, k0 ≠ 0 ∧ -(i : Int) ≤ k0 ∧ k0 ≤ (N : Int) - 1 - i ∧ G = (k0 * a) % D) →
      (∀ k : Int, k ≠ 0 → -(i : Int) ≤ k → k ≤ (N : Int) - 1 - i → G ≤ (k * a) % D) → G = A ∨ G = B ∨ G = A + B := by
  obtain ⟨p, p1, p2, p3⟩ := argmin (fun k => ((k : Int) * a) % D) (N - 1) (by omega)
  obtain ⟨q, q1, q2, q3⟩ := argmin (fun k => (-((k : Int) * a)) % D) (N - 1) (by omega)
  have hdn : ∀ k : Nat, 1 ≤ k → k ≤ N - 1 → (-((k : Int) * a)) % D ≠ 0 := by
    intro k k1 k2 h
    apply hd k k1 k2
    have := Int.dvd_of_emod_eq_zero h
    exact Int.emod_eq_zero_of_dvd ((Int.dvd_neg).1 this)
  have nn : ∀ x : Int, 0 ≤ x % D ∧ x % D < D := fun x => ⟨Int.emod_nonneg x (by omega), Int.emod_lt_of_pos x hD⟩
  refine ⟨((p : Int) * a) % D, (-((q : Int) * a)) % D, ?_, ?_, ?_⟩
  · have := hd p p1 p2; have := nn ((p : Int) * a); omega
  · have := hdn q q1 q2; have := nn (-((q : Int) * a)); omega
  · intro i G hi ⟨k0, z0, k1, k2, hG⟩ hmin
    generalize hA : ((p : Int) * a) % D = A
    generalize hB : (-((q : Int) * a)) % D = B
    have p3' : ∀ k : Nat, 1 ≤ k → k ≤ N - 1 → A ≤ ((k : Int) * a) % D := fun k h1 h2 => by rw [← hA]; exact p3 k h1 h2
    have q3' : ∀ k : Nat, 1 ≤ k → k ≤ N - 1 → B ≤ (-((k : Int) * a)) % D := fun k h1 h2 => by rw [← hB]; exact q3 k h1 h2
    have bA := nn ((p : Int) * a); have bB := nn (-((q : Int) * a)); rw [hA] at bA; rw [hB] at bB
    have bG := nn (k0 * a); rw [← hG] at bG
    have hneg : ∀ m : Nat, ((-(m : Int)) * a) = -((m : Int) * a) := fun m => Int.neg_mul _ _
    by_cases c1 : i + p ≤ N - 1
    · left
      have g1 := hmin (p : Int) (by omega) (by omega) (by omega)
      rw [hA] at g1
      rcases Int.lt_or_gt_of_ne z0 with hneg0 | hpos0
      · obtain ⟨m, hm⟩ := Int.eq_ofNat_of_zero_le (show 0 ≤ -k0 by omega)
        obtain rfl : k0 = -(m : Int) := by omega
        rw [hneg] at hG
        by_cases c : G < A
        · have s := sub_mod (u := A) (v := G) hD hA hG.symm (by omega) (by omega)
          have e : (p : Int) * a - -((m : Int) * a) = ((p + m : Nat) : Int) * a := by rw [Int.natCast_add, Int.add_mul]; omega
          rw [e] at s
          have h0 := hdn m (by omega) (by omega)
          have := p3' (p + m) (by omega) (by omega)
          omega
        · omega
      · obtain ⟨m, hm⟩ := Int.eq_ofNat_of_zero_le (show 0 ≤ k0 by omega)
        subst hm
        have := p3' m (by omega) (by omega)
        omega
    · by_cases c2 : q ≤ i
      · right; left
        have g1 := hmin (-(q : Int)) (by omega) (by omega) (by omega)
        rw [hneg, hB] at g1
        rcases Int.lt_or_gt_of_ne z0 with hneg0 | hpos0
        · obtain ⟨m, hm⟩ := Int.eq_ofNat_of_zero_le (show 0 ≤ -k0 by omega)
          obtain rfl : k0 = -(m : Int) := by omega
          rw [hneg] at hG
          have := q3' m (by omega) (by omega)
          omega
        · obtain ⟨m, hm⟩ := Int.eq_ofNat_of_zero_le (show 0 ≤ k0 by omega)
          subst hm
          by_cases c : G < B
          · have s := sub_mod (u := B) (v := G) hD hB hG.symm (by omega) (by omega)
            have e : -((q : Int) * a) - (m : Int) * a = -(((q + m : Nat) : Int) * a) := by rw [Int.natCast_add, Int.add_mul]; omega
            rw [e] at s
            have h0 := hd m (by omega) (by omega)
            have := q3' (q + m) (by omega) (by omega)
            omega
          · omega
      · right; right
        have low : ∀ k : Int, k ≠ 0 → -(i : Int) ≤ k → k ≤ (N : Int) - 1 - i → A + B ≤ (k * a) % D := by
          intro k z h1 h2
          generalize hv : (k * a) % D = v
          have bv := nn (k * a); rw [hv] at bv
          rcases Int.lt_or_gt_of_ne z with hneg0 | hpos0
          · obtain ⟨m, hm⟩ := Int.eq_ofNat_of_zero_le (show 0 ≤ -k by omega)
            obtain rfl : k = -(m : Int) := by omega
            rw [hneg] at hv
            have h3 := q3' m (by omega) (by omega)
            rw [hv] at h3
            by_cases c : v < A + B
            · have s := sub_mod (u := v) (v := B) hD hv hB (by omega) (by omega)
              have e : -((m : Int) * a) - -((q : Int) * a) = ((q - m : Nat) : Int) * a := by rw [Int.natCast_sub (by omega), Int.sub_mul]; omega
              rw [e] at s
              have h4 := hd (q - m) (by omega) (by omega)
              have h5 := p3' (q - m) (by omega) (by omega)
              omega
            · omega
          · obtain ⟨m, hm⟩ := Int.eq_ofNat_of_zero_le (show 0 ≤ k by omega)
            subst hm
            have h3 := p3' m (by omega) (by omega)
            rw [hv] at h3
            by_cases c : v < A + B
            · have s := sub_mod (u := v) (v := A) hD hv hA (by omega) (by omega)
              have e : (m : Int) * a - (p : Int) * a = -(((p - m : Nat) : Int) * a) := by rw [Int.natCast_sub (by omega), Int.sub_mul]; omega
              rw [e] at s
              have h4 := hdn (p - m) (by omega) (by omega)
              have h5 := q3' (p - m) (by omega) (by omega)
              omega
            · omega
        have g0 := low k0 z0 k1 k2
        rw [← hG] at g0
        by_cases e : p = q
        · exfalso
          subst e
          have ex := Int.emod_add_mul_ediv ((p : Int) * a) D
          have hA0 := hd p p1 p2
          have : (-((p : Int) * a)) % D = D - A := by
            have e2 : -((p : Int) * a) = (D - A) + D * (-(((p : Int) * a) / D) - 1) := by rw [Int.mul_sub, Int.mul_neg]; omega
            rw [e2, Int.add_mul_emod_self_left]
            exact Int.emod_eq_of_lt (by omega) (by omega)
          omega
        · have g1 := hmin ((p : Int) - q) (by omega) (by omega) (by omega)
          have g2 : (((p : Int) - q) * a) % D ≤ A + B := by
            have ea := Int.emod_add_mul_ediv ((p : Int) * a) D
            have eb := Int.emod_add_mul_ediv (-((q : Int) * a)) D
            have e2 : ((p : Int) - q) * a = (A + B) + D * (((p : Int) * a) / D + (-((q : Int) * a)) / D) := by rw [Int.sub_mul, Int.mul_add]; omega
            rw [e2, Int.add_mul_emod_self_left]
            by_cases c : A + B < D
            · rw [Int.emod_eq_of_lt (by omega) c]; exact Int.le_refl _
            · have := (nn (A + B)).2; omega
          omega
/-- Rising lists with the same members are the same. -/
theorem rise_ext : ∀ (l m : List Int), l.Pairwise (· < ·) → m.Pairwise (· < ·) → (∀ x, x ∈ l ↔ x ∈ m) → l = m
  | [], [], _, _, _ => rfl
  | [], y :: m, _, _, h => by have := (h y).2 List.mem_cons_self; simp at this
  | x :: l, [], _, _, h => by have := (h x).1 List.mem_cons_self; simp at this
  | x :: l, y :: m, hl, hm, h => by
    rw [List.pairwise_cons] at hl hm
    have hxy : x = y := by
      have h1 := (h x).1 List.mem_cons_self
      have h2 := (h y).2 List.mem_cons_self
      rcases List.mem_cons.1 h1 with e | h1
      · exact e
      · rcases List.mem_cons.1 h2 with e | h2
        · exact e.symm
        · have a := hl.1 y h2
          have b := hm.1 x h1
          omega
    subst hxy
    rw [rise_ext l m hl.2 hm.2 (fun z => ?_)]
    constructor
    · intro hz
      have := hl.1 z hz
      rcases List.mem_cons.1 ((h z).1 (List.mem_cons_of_mem _ hz)) with e | e
      · omega
      · exact e
    · intro hz
      have := hm.1 z hz
      rcases List.mem_cons.1 ((h z).2 (List.mem_cons_of_mem _ hz)) with e | e
      · omega
      · exact e
/-- g is a gap between neighbours of S on a circle of D. -/
def GAP (S : List Int) (D g : Int) : Prop := ∃ u v, u ∈ S ∧ (v ∈ S ∨ v = D) ∧ u < v ∧ g = v - u ∧ ∀ y ∈ S, ¬ (u < y ∧ y < v)
def DIF (p : List Int) : List Int := (List.range (p.length - 1)).map fun i => p.getD (i + 1) 0 - p.getD i 0
theorem pair_get {s : List Int} (h : s.Pairwise (· < ·)) {i j : Nat} (hij : i < j) (hj : j < s.length) : s.getD i 0 < s.getD j 0 := by
  have := List.pairwise_iff_getElem.1 h i j (by omega) hj hij
  simpa [List.getD_eq_getElem?_getD, hj, show i < s.length by omega] using this
theorem mem_getD {s : List Int} {x : Int} (h : x ∈ s) : ∃ i, i < s.length ∧ s.getD i 0 = x := by
  obtain ⟨i, hi, rfl⟩ := List.getElem_of_mem h
  exact ⟨i, hi, by simp [List.getD_eq_getElem?_getD, hi]⟩
theorem getD_snoc {s : List Int} {D : Int} {i : Nat} (h : i < s.length) : (s ++ [D]).getD i 0 = s.getD i 0 := by
  simp [List.getD_eq_getElem?_getD, List.getElem?_append_left h]
theorem getD_snoc_last {s : List Int} {D : Int} : (s ++ [D]).getD s.length 0 = D := by
  simp [List.getD_eq_getElem?_getD]
/-- The differences of the rising points are the gaps. -/
theorem dif_gap {s : List Int} {D : Int} (h : s.Pairwise (· < ·)) (hD : ∀ x ∈ s, x < D) (g : Int) : g ∈ DIF (s ++ [D]) ↔ GAP s D g := by
  unfold DIF
  simp only [List.mem_map, List.mem_range, List.length_append, List.length_cons, List.length_nil]
  constructor
  · rintro ⟨i, hi, rfl⟩
    have hi' : i < s.length := by omega
    rw [getD_snoc hi']
    refine ⟨s.getD i 0, (s ++ [D]).getD (i + 1) 0, getD_mem hi', ?_, ?_, rfl, ?_⟩
    · by_cases c : i + 1 < s.length
      · left; rw [getD_snoc c]; exact getD_mem c
      · right; rw [show i + 1 = s.length by omega]; exact getD_snoc_last
    · by_cases c : i + 1 < s.length
      · rw [getD_snoc c]; exact pair_get h (by omega) c
      · rw [show i + 1 = s.length by omega, getD_snoc_last]; exact hD _ (getD_mem hi')
    · rintro y hy ⟨h1, h2⟩
      obtain ⟨j, hj, rfl⟩ := mem_getD hy
      by_cases c : j ≤ i
      · rcases Nat.lt_or_eq_of_le c with c | c
        · have := pair_get h c hi'; omega
        · subst c; omega
      · by_cases c1 : i + 1 < s.length
        · rw [getD_snoc c1] at h2
          rcases Nat.lt_or_eq_of_le (show i + 1 ≤ j by omega) with c2 | c2
          · have := pair_get h c2 hj; omega
          · subst c2; omega
        · omega
  · rintro ⟨u, v, hu, hv, huv, rfl, hno⟩
    obtain ⟨i, hi, rfl⟩ := mem_getD hu
    refine ⟨i, by omega, ?_⟩
    rw [getD_snoc hi]
    have : (s ++ [D]).getD (i + 1) 0 = v := by
      by_cases c : i + 1 < s.length
      · rw [getD_snoc c]
        have h1 := hno _ (getD_mem (d := 0) c)
        have h2 : s.getD i 0 < s.getD (i + 1) 0 := pair_get h (by omega) c
        rcases hv with hv | hv
        · obtain ⟨j, hj, rfl⟩ := mem_getD hv
          by_cases c2 : j ≤ i
          · rcases Nat.lt_or_eq_of_le c2 with c2 | c2
            · have := pair_get h c2 hi; omega
            · subst c2; omega
          · rcases Nat.lt_or_eq_of_le (show i + 1 ≤ j by omega) with c3 | c3
            · have := pair_get h c3 hj; omega
            · subst c3; rfl
        · subst hv
          have := hD _ (getD_mem (d := 0) c)
          omega
      · rw [show i + 1 = s.length by omega, getD_snoc_last]
        rcases hv with hv | hv
        · obtain ⟨j, hj, rfl⟩ := mem_getD hv
          by_cases c2 : j ≤ i
          · rcases Nat.lt_or_eq_of_le c2 with c2 | c2
            · have := pair_get h c2 hi; omega
            · subst c2; omega
          · omega
        · exact hv.symm
    rw [this]
theorem dif_length (p : List Int) : (DIF p).length = p.length - 1 := by simp [DIF]
theorem dif_sum_ (p : List Int) : ∀ n, n < p.length → (((List.range n).map fun i => p.getD (i + 1) 0 - p.getD i 0).sum) = p.getD n 0 - p.getD 0 0
  | 0, _ => by simp
  | n + 1, h => by
    rw [List.range_succ, List.map_append, List.sum_append, dif_sum_ p n (by omega)]
    simp; omega
theorem dif_sum {p : List Int} (h : 1 ≤ p.length) : (DIF p).sum = p.getD (p.length - 1) 0 - p.getD 0 0 := dif_sum_ p _ (by omega)
theorem sum_lo {lo : Int} : ∀ (l : List Int), (∀ x ∈ l, lo ≤ x) → lo * l.length ≤ l.sum
  | [], _ => by simp
  | x :: l, h => by
    have h1 := sum_lo l (fun y hy => h y (List.mem_cons_of_mem _ hy))
    have h2 := h x List.mem_cons_self
    rw [List.sum_cons, List.length_cons, Int.natCast_succ, Int.mul_add, Int.mul_one]
    omega
theorem sum_hi {hi : Int} : ∀ (l : List Int), (∀ x ∈ l, x ≤ hi) → l.sum ≤ hi * l.length
  | [], _ => by simp
  | x :: l, h => by
    have h1 := sum_hi l (fun y hy => h y (List.mem_cons_of_mem _ hy))
    have h2 := h x List.mem_cons_self
    rw [List.sum_cons, List.length_cons, Int.natCast_succ, Int.mul_add, Int.mul_one]
    omega
/-- Point i on the circle. -/
def pos (a D : Int) (i : Nat) : Int := ((i : Int) * a) % D
def PTS (a D : Int) (n : Nat) : List Int := (List.range n).map (pos a D)
theorem pos_rng (a : Int) {D : Int} (hD : 0 < D) (i : Nat) : 0 ≤ pos a D i ∧ pos a D i < D := ⟨Int.emod_nonneg _ (by omega), Int.emod_lt_of_pos _ hD⟩
theorem pos_zero (a D : Int) : pos a D 0 = 0 := by simp [pos]
theorem mem_pts {a D : Int} {n : Nat} {x : Int} : x ∈ PTS a D n ↔ ∃ i, i < n ∧ pos a D i = x := by simp [PTS]
/-- No two points fall together. -/
def APART (a D : Int) (n : Nat) : Prop := ∀ k : Nat, 1 ≤ k → k ≤ n - 1 → ((k : Int) * a) % D ≠ 0
theorem pos_ne {a D : Int} {n : Nat} (hD : 0 < D) (h : APART a D n) {i j : Nat} (hij : i < j) (hj : j < n) : pos a D i ≠ pos a D j := by
  intro e
  have := sub_mod hD (show ((j : Int) * a) % D = pos a D j from rfl) (show ((i : Int) * a) % D = pos a D i from rfl) (by omega) (by omega)
  have e2 : (j : Int) * a - (i : Int) * a = ((j - i : Nat) : Int) * a := by rw [Int.natCast_sub (by omega), Int.sub_mul]
  rw [e2, e, Int.sub_self] at this
  exact h (j - i) (by omega) (by omega) this
theorem apart_nodup {a D : Int} {n : Nat} (hD : 0 < D) : APART a D n ↔ (PTS a D n).Nodup := by
  constructor
  · intro h
    unfold PTS
    rw [List.Nodup, List.pairwise_map]
    refine List.pairwise_iff_getElem.2 fun i j hi hj hij => ?_
    simp only [List.getElem_range]
    exact pos_ne hD h hij (by simpa using hj)
  · intro h k h1 h2 e
    unfold PTS at h
    rw [List.Nodup, List.pairwise_map] at h
    have := List.pairwise_iff_getElem.1 h 0 k (by simp; omega) (by simp; omega) (by omega)
    simp only [List.getElem_range] at this
    rw [pos_zero] at this
    exact this e.symm
/-- A gap between points is one of three. -/
theorem gap_three {a D : Int} {n : Nat} (hD : 0 < D) (hn : 2 ≤ n) (h : APART a D n) : ∃ A B : Int, 0 < A ∧ 0 < B ∧ ∀ g, GAP (PTS a D n) D g → g = A ∨ g = B ∨ g = A + B := by
  obtain ⟨A, B, hA, hB, key⟩ := three hD hn h
  refine ⟨A, B, hA, hB, ?_⟩
  rintro g ⟨u, v, hu, hv, huv, rfl, hno⟩
  obtain ⟨i, hi, rfl⟩ := mem_pts.1 hu
  have ri := pos_rng a hD i
  have sub : ∀ j : Nat, (j : Int) * a - (i : Int) * a = ((j : Int) - i) * a := fun j => by rw [Int.sub_mul]
  have vle : v ≤ D := by
    rcases hv with hv | hv
    · obtain ⟨j, hj, rfl⟩ := mem_pts.1 hv
      have := pos_rng a hD j; omega
    · omega
  refine key i _ hi ?_ ?_
  · rcases hv with hv | hv
    · obtain ⟨j, hj, rfl⟩ := mem_pts.1 hv
      have rj := pos_rng a hD j
      refine ⟨(j : Int) - i, fun e => ?_, by omega, by omega, ?_⟩
      · have : i = j := by omega
        subst this; omega
      · rw [← sub, sub_mod hD (show ((j : Int) * a) % D = pos a D j from rfl) (show ((i : Int) * a) % D = pos a D i from rfl) (by omega) (by omega)]
    · subst hv
      have hi0 : i ≠ 0 := by
        intro e; subst e
        have h1 := pos_rng a hD 1
        have h2 : pos a v 1 ≠ 0 := h 1 (by omega) (by omega)
        refine hno (pos a v 1) (mem_pts.2 ⟨1, by omega, rfl⟩) ⟨?_, by omega⟩
        rw [pos_zero]; omega
      have hp : pos a v i ≠ 0 := h i (by omega) (by omega)
      refine ⟨-(i : Int), by omega, by omega, by omega, ?_⟩
      have e2 : -(i : Int) * a = (v - pos a v i) + v * (-(((i : Int) * a) / v) - 1) := by
        have ex := Int.emod_add_mul_ediv ((i : Int) * a) v
        unfold pos
        rw [Int.mul_sub, Int.mul_neg, Int.neg_mul]; omega
      rw [e2, Int.add_mul_emod_self_left]
      exact (Int.emod_eq_of_lt (by omega) (by omega)).symm
  · intro k hk h1 h2
    obtain ⟨j, hj⟩ := Int.eq_ofNat_of_zero_le (show 0 ≤ (i : Int) + k by omega)
    have hjn : j < n := by omega
    have hji : j ≠ i := by omega
    have rj := pos_rng a hD j
    obtain rfl : k = (j : Int) - i := by omega
    have hne : pos a D i ≠ pos a D j := by
      rcases Nat.lt_or_gt_of_ne hji with c | c
      · exact (pos_ne hD h c hi).symm
      · exact pos_ne hD h c hjn
    have hnb := hno (pos a D j) (mem_pts.2 ⟨j, hjn, rfl⟩)
    rw [← sub]
    by_cases c : pos a D i < pos a D j
    · rw [sub_mod hD (show ((j : Int) * a) % D = pos a D j from rfl) (show ((i : Int) * a) % D = pos a D i from rfl) (by omega) (by omega)]
      omega
    · have e2 : (j : Int) * a - (i : Int) * a = (pos a D j - pos a D i + D) + D * (((j : Int) * a) / D - ((i : Int) * a) / D - 1) := by
        have ex := Int.emod_add_mul_ediv ((i : Int) * a) D
        have ey := Int.emod_add_mul_ediv ((j : Int) * a) D
        unfold pos
        rw [Int.mul_sub, Int.mul_sub]; omega
      rw [e2, Int.add_mul_emod_self_left, Int.emod_eq_of_lt (by omega) (by omega)]
      omega
/-- Points fall together just where there are more of them than den / gcd. -/
theorem apart_iff {a D : Int} {n : Nat} (hD : 0 < D) (ha : 0 ≤ a) (hn : 1 ≤ n) : APART a D n ↔ (n : Int) ≤ D / (Int.gcd D a : Int) := by
  obtain ⟨d, rfl⟩ := Int.eq_ofNat_of_zero_le (show 0 ≤ D by omega)
  obtain ⟨b, rfl⟩ := Int.eq_ofNat_of_zero_le ha
  have hg : Int.gcd (d : Int) (b : Int) = Nat.gcd d b := rfl
  rw [hg]
  have hd : 0 < d := by omega
  have gp : 0 < Nat.gcd d b := Nat.gcd_pos_of_pos_left b hd
  have ed : d = Nat.gcd d b * (d / Nat.gcd d b) := (Nat.mul_div_cancel' (Nat.gcd_dvd_left d b)).symm
  have eb : b = Nat.gcd d b * (b / Nat.gcd d b) := (Nat.mul_div_cancel' (Nat.gcd_dvd_right d b)).symm
  have hq : 0 < d / Nat.gcd d b := Nat.div_pos (Nat.gcd_le_left b hd) gp
  have hz : ∀ k : Nat, (((k : Int) * (b : Int)) % (d : Int) = 0) ↔ (d / Nat.gcd d b) ∣ k := by
    intro k
    have : ((k : Int) * (b : Int)) % (d : Int) = ((k * b % d : Nat) : Int) := by rw [Int.natCast_emod, Int.natCast_mul]
    rw [this]
    constructor
    · intro e
      have e' : k * b % d = 0 := by omega
      have dv := Nat.dvd_of_mod_eq_zero e'
      obtain ⟨c, hc⟩ := dv
      have e1 : Nat.gcd d b * (k * (b / Nat.gcd d b)) = Nat.gcd d b * ((d / Nat.gcd d b) * c) := by
        calc Nat.gcd d b * (k * (b / Nat.gcd d b)) = k * (Nat.gcd d b * (b / Nat.gcd d b)) := Nat.mul_left_comm _ _ _
          _ = k * b := by rw [← eb]
          _ = d * c := hc
          _ = (Nat.gcd d b * (d / Nat.gcd d b)) * c := by rw [← ed]
          _ = Nat.gcd d b * ((d / Nat.gcd d b) * c) := Nat.mul_assoc _ _ _
      have dv3 : d / Nat.gcd d b ∣ k * (b / Nat.gcd d b) := ⟨c, Nat.eq_of_mul_eq_mul_left gp e1⟩
      exact (Nat.Coprime.dvd_of_dvd_mul_right (Nat.coprime_div_gcd_div_gcd gp) dv3)
    · rintro ⟨c, rfl⟩
      have : d / Nat.gcd d b * c * b % d = 0 := by
        apply Nat.mod_eq_zero_of_dvd
        refine ⟨c * (b / Nat.gcd d b), ?_⟩
        calc d / Nat.gcd d b * c * b = d / Nat.gcd d b * c * (Nat.gcd d b * (b / Nat.gcd d b)) := by rw [← eb]
          _ = (Nat.gcd d b * (d / Nat.gcd d b)) * (c * (b / Nat.gcd d b)) := by simp [Nat.mul_comm, Nat.mul_left_comm]
          _ = d * (c * (b / Nat.gcd d b)) := by rw [← ed]
      omega
  have ec : ((d : Int) / ((Nat.gcd d b : Nat) : Int)) = ((d / Nat.gcd d b : Nat) : Int) := (Int.natCast_ediv ..).symm
  rw [ec]
  constructor
  · intro h
    by_cases c : n ≤ d / Nat.gcd d b
    · omega
    · exact absurd ((hz (d / Nat.gcd d b)).2 (Nat.dvd_refl _)) (h _ (by omega) (by omega))
  · intro h k h1 h2 e
    have := Nat.le_of_dvd (by omega) ((hz k).1 e)
    omega
end Go.Proofs.Ytlhpejabdmejbaa.Base
