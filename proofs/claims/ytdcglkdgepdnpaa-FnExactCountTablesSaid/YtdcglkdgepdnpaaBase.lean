/- Plain lemmas: rounds ('Ev'), 64-bit numbers, division rounded down, lists. No condition. -/
import Derived.Test.YtdcglkdgepdnpaaWMore
namespace Go.Proofs.YtdcglkdgepdnpaaW.PrintWords
set_option linter.unusedVariables false
set_option linter.unusedSimpArgs false
theorem Ev.succ {α : Type} {g : Nat → Option α} {r : α} (h : Ev (fun k => g (k + 1)) r) : Ev g r := by
  obtain ⟨K, h⟩ := h
  refine ⟨K + 1, fun k hk => ?_⟩
  obtain ⟨m, rfl⟩ : ∃ m, k = m + 1 := ⟨k - 1, by omega⟩
  exact h m (by omega)
theorem Ev.to {α : Type} {g : Nat → Option α} {r r' : α} (h : Ev g r) (e : r = r') : Ev g r' := e ▸ h
theorem Ev.const {α : Type} {o : Option α} {r : α} (h : o = some r) : Ev (fun _ => o) r := ⟨0, fun _ _ => h⟩
theorem Ev.ret {α : Type} {g : Nat → Option α} {r r' : α} (h : Ev g r) (e : r = r') : Ev g r' := e ▸ h
theorem Ev.uniq {α : Type} {g : Nat → Option α} {r r' : α} (h : Ev g r) (h' : Ev g r') : r = r' := by
  obtain ⟨K, h⟩ := h
  obtain ⟨K', h'⟩ := h'
  have a := h (max K K') (by omega)
  have b := h' (max K K') (by omega)
  rw [a] at b
  exact Option.some.inj b
end Go.Proofs.YtdcglkdgepdnpaaW.PrintWords
namespace Go.Proofs.Ytdcglkdgepdnpaa.Base
open Go.RowKit Go.Proofs.YtdcglkdgepdnpaaW.PrintWords Go.Proofs.YtdcglkdgepdnpaaW.PrintLast Go.Proofs.YtdcglkdgepdnpaaW.PrintMore
set_option linter.unusedVariables false
set_option linter.unusedSimpArgs false

theorem w64 {x : Int} (h0 : -9223372036854775808 ≤ x) (h1 : x ≤ 9223372036854775807) : wrap64 x = x := by unfold wrap64; omega
theorem wf64 {x : Int} (h : (Lit.int .i64 x).wf = true) : -9223372036854775808 ≤ x ∧ x ≤ 9223372036854775807 := by
  simp only [Lit.wf, IntKind.min, IntKind.max, IntKind.signed, IntKind.bits, Bool.and_eq_true, decide_eq_true_eq, if_true] at h
  omega
theorem wrap64_range (x : Int) : -9223372036854775808 ≤ wrap64 x ∧ wrap64 x ≤ 9223372036854775807 := by unfold wrap64; omega

theorem rd_get {xs : List Int} {i : Nat} (h : i < xs.length) : rd xs (i : Int) = xs[i] := by
  unfold rd; simp [List.getD_eq_getElem?_getD, h]

theorem ediv_bounds {a b : Int} (hb : 0 < b) : (a / b) * b ≤ a ∧ a < (a / b) * b + b := by
  have h1 := Int.emod_nonneg a (b := b) (by omega)
  have h2 := Int.emod_lt_of_pos a hb
  have h3 := Int.emod_add_mul_ediv a b
  have h4 : b * (a / b) = (a / b) * b := Int.mul_comm _ _
  omega
theorem ediv_uniq {a b q : Int} (hb : 0 < b) (h1 : q * b ≤ a) (h2 : a < q * b + b) : a / b = q := by
  have := (Int.ediv_emod_unique (a := a) (b := b) (q := q) (r := a - b * q) hb).2
  have h4 : b * q = q * b := Int.mul_comm _ _
  exact (this ⟨by omega, by omega, by omega⟩).1
theorem tdiv_cases {a b : Int} (hb : 0 < b) : (a.tdiv b = a / b ∧ a.tmod b = a % b ∧ (0 ≤ a ∨ a % b = 0)) ∨ (a.tdiv b = a / b + 1 ∧ a.tmod b = a % b - b ∧ a < 0 ∧ a % b ≠ 0) := by
  rw [Int.tdiv_eq_ediv, Int.tmod_eq_emod]
  by_cases h : 0 ≤ a ∨ b ∣ a
  · left
    rw [if_pos h, if_pos h]
    refine ⟨by omega, by omega, ?_⟩
    rcases h with h | h
    · exact .inl h
    · exact .inr (Int.emod_eq_zero_of_dvd h)
  · right
    rw [if_neg h, if_neg h, Int.sign_eq_one_of_pos hb]
    refine ⟨rfl, by omega, by omega, fun e => h (.inr (Int.dvd_of_emod_eq_zero e))⟩
theorem floorA {a b : Int} (hb : 0 < b) : (if a.tdiv b * b > a then a.tdiv b - 1 else a.tdiv b) = a / b := by
  have h := ediv_bounds (a := a) hb
  rcases tdiv_cases (a := a) hb with ⟨h1, h2, h3⟩ | ⟨h1, h2, h3, h4⟩
  · rw [h1, if_neg (by omega)]
  · have h5 : (a / b + 1) * b = a / b * b + b := by rw [Int.add_mul, Int.one_mul]
    rw [h1, if_pos (by rw [h5]; omega)]; omega
theorem floorB {a b : Int} (hb : 0 < b) : (if a.tmod b < 0 then a.tdiv b - 1 else a.tdiv b) = a / b := by
  have m1 := Int.emod_nonneg a (b := b) (by omega)
  have m2 := Int.emod_lt_of_pos a hb
  rcases tdiv_cases (a := a) hb with ⟨h1, h2, h3⟩ | ⟨h1, h2, h3, h4⟩
  · rw [h1, h2, if_neg (by omega)]
  · rw [h1, h2, if_pos (by omega)]; omega
theorem ediv_range {a b m : Int} (hb : 0 < b) (h1 : -m ≤ a) (h2 : a ≤ m) (hm : 0 ≤ m) : -m ≤ a / b ∧ a / b ≤ m := by
  constructor
  · rw [Int.le_ediv_iff_mul_le hb]
    have : -m * b ≤ -m * 1 := Int.mul_le_mul_of_nonpos_left (by omega) (by omega)
    omega
  · have := Int.ediv_le_ediv hb h2
    have : m / b ≤ m := Int.ediv_le_self b hm
    omega
theorem tdiv_range {a b m : Int} (hb : 0 < b) (h1 : -m ≤ a) (h2 : a ≤ m) (hm : 0 ≤ m) : -m ≤ a.tdiv b ∧ a.tdiv b ≤ m := by
  have h := ediv_range hb h1 h2 hm
  rcases tdiv_cases (a := a) hb with ⟨e, _⟩ | ⟨e, _, h3, _⟩
  · rw [e]; exact h
  · have : a / b < 0 := Int.ediv_neg_of_neg_of_pos h3 hb
    rw [e]; omega

/-- The sum of a list, as the program has it: each step within 64 bits. -/
def wsum (a : Int) (l : List Int) : Int := l.foldl (fun a x => wrap64 (a + x)) a
theorem wsum_cons (a x : Int) (l : List Int) : wsum a (x :: l) = wsum (wrap64 (a + x)) l := rfl
theorem wsum_nil (a : Int) : wsum a [] = a := rfl
theorem wsum_eq (m : Int) : ∀ (l : List Int) (a : Int), (∀ x ∈ l, -m ≤ x ∧ x ≤ m) → 0 ≤ m → -9223372036854775808 ≤ a - m * l.length → a + m * l.length ≤ 9223372036854775807 → wsum a l = a + l.sum
  | [], a, _, _, _, _ => by simp [wsum]
  | x :: l, a, h, hm, h0, h1 => by
    have hx := h x List.mem_cons_self
    have e : m * ((x :: l).length : Int) = m * l.length + m := by rw [List.length_cons, Int.natCast_succ, Int.mul_add, Int.mul_one]
    have hp : 0 ≤ m * (l.length : Int) := Int.mul_nonneg hm (by omega)
    rw [e] at h0 h1
    rw [wsum_cons, w64 (by omega) (by omega), wsum_eq m l (a + x) (fun y hy => h y (List.mem_cons_of_mem _ hy)) hm (by omega) (by omega), List.sum_cons]
    omega
theorem sum_bounds (m : Int) : ∀ (l : List Int), (∀ x ∈ l, -m ≤ x ∧ x ≤ m) → -(m * l.length) ≤ l.sum ∧ l.sum ≤ m * l.length
  | [], _ => by simp
  | x :: l, h => by
    have hx := h x List.mem_cons_self
    have e : m * ((x :: l).length : Int) = m * l.length + m := by rw [List.length_cons, Int.natCast_succ, Int.mul_add, Int.mul_one]
    have ih := sum_bounds m l (fun y hy => h y (List.mem_cons_of_mem _ hy))
    rw [e, List.sum_cons]
    omega

theorem sum_set : ∀ (c : List Int) (i : Nat) (v : Int) (h : i < c.length), (c.set i v).sum = c.sum - c[i] + v
  | x :: c, 0, v, _ => by simp; omega
  | x :: c, i + 1, v, h => by
    have hi : i < c.length := by simpa using h
    have := sum_set c i v hi
    simp only [List.set_cons_succ, List.sum_cons, List.getElem_cons_succ]
    omega
/-- Counting: one more of p. -/
def bump (c : List Int) (p : Int) : List Int := c.set p.toNat (wrap64 (rd c p + 1))
def tally (c l : List Int) : List Int := l.foldl bump c
theorem tally_cons (c : List Int) (p : Int) (l : List Int) : tally c (p :: l) = tally (bump c p) l := rfl
theorem bump_length (c : List Int) (p : Int) : (bump c p).length = c.length := by simp [bump]
theorem tally_length : ∀ (l c : List Int), (tally c l).length = c.length
  | [], _ => rfl
  | p :: l, c => by rw [tally_cons, tally_length l, bump_length]
theorem bump_range {c : List Int} {p m : Int} (h : ∀ x ∈ c, 0 ≤ x ∧ x ≤ m) (h0 : 0 ≤ p) (h1 : p < c.length) (hm : m < 9223372036854775807) : ∀ x ∈ bump c p, 0 ≤ x ∧ x ≤ m + 1 := by
  intro x hx
  obtain ⟨i, rfl⟩ := Int.eq_ofNat_of_zero_le h0
  have hi : i < c.length := by omega
  have hc := h c[i] (List.getElem_mem hi)
  unfold bump at hx
  rw [rd_get hi, w64 (by omega) (by omega)] at hx
  rcases List.mem_or_eq_of_mem_set hx with hx | hx
  · have := h x hx; omega
  · omega
theorem bump_sum {c : List Int} {p m : Int} (h : ∀ x ∈ c, 0 ≤ x ∧ x ≤ m) (h0 : 0 ≤ p) (h1 : p < c.length) (hm : m < 9223372036854775807) : (bump c p).sum = c.sum + 1 := by
  obtain ⟨i, rfl⟩ := Int.eq_ofNat_of_zero_le h0
  have hi : i < c.length := by omega
  have hc := h c[i] (List.getElem_mem hi)
  unfold bump
  rw [rd_get hi, w64 (by omega) (by omega), Int.toNat_natCast, sum_set c i _ hi]
  omega
theorem tally_sum : ∀ (l c : List Int) (m : Int), (∀ x ∈ c, 0 ≤ x ∧ x ≤ m) → (∀ p ∈ l, 0 ≤ p ∧ p < c.length) → 0 ≤ m → m + l.length < 9223372036854775807 → (tally c l).sum = c.sum + l.length
  | [], c, m, _, _, _, _ => by simp [tally]
  | p :: l, c, m, h, hl, hm, hb => by
    have hp := hl p List.mem_cons_self
    rw [List.length_cons] at hb
    rw [tally_cons, tally_sum l (bump c p) (m + 1) (bump_range h hp.1 hp.2 (by omega)) (fun q hq => by rw [bump_length]; exact hl q (List.mem_cons_of_mem _ hq)) (by omega) (by omega), bump_sum h hp.1 hp.2 (by omega), List.length_cons]
    omega
theorem zeros_sum (n : Nat) : (List.replicate n (0 : Int)).sum = 0 := by
  induction n with
  | zero => rfl
  | succ n ih => rw [List.replicate_succ, List.sum_cons, ih]; rfl
theorem zeros_mem {n : Nat} : ∀ x ∈ List.replicate n (0 : Int), 0 ≤ x ∧ x ≤ 0 := by
  intro x hx
  rw [List.mem_replicate] at hx
  omega

end Go.Proofs.Ytdcglkdgepdnpaa.Base
