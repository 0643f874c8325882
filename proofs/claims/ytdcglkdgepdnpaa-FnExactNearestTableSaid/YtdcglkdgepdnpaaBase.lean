/- Plain lemmas: rounds ('Ev'), 64-bit numbers, division rounded down, lists. No condition. -/
import Derived.Test.YtdcglkdgepdnpaaWMore
namespace Go.Proofs.YtdcglkdgepdnpaaW.PrintWords
set_option linter.unusedVariables false
set_option linter.unusedSimpArgs false
theorem Ev.succ {α : Type} {g : Nat → Option α} {r : α} (h : Ev (fun k => g (k + 1)) r) : Ev g r := by
  obtain ⟨K, h⟩ := h
  refine ⟨K + 1, fun k hk => ?_⟩
  obtain ⟨m, rfl⟩ : ∃ m, k = m + 1 := ⟨k - 1, by omega⟩
  exact h m (by omega)
theorem Ev.to {α : Type} {g : Nat → Option α} {r r' : α} (h : Ev g r) (e : r = r') : Ev g r' := e ▸ h
theorem Ev.const {α : Type} {o : Option α} {r : α} (h : o = some r) : Ev (fun _ => o) r := ⟨0, fun _ _ => h⟩
theorem Ev.ret {α : Type} {g : Nat → Option α} {r r' : α} (h : Ev g r) (e : r = r') : Ev g r' := e ▸ h
theorem Ev.uniq {α : Type} {g : Nat → Option α} {r r' : α} (h : Ev g r) (h' : Ev g r') : r = r' := by
  obtain ⟨K, h⟩ := h
  obtain ⟨K', h'⟩ := h'
  have a := h (max K K') (by omega)
  have b := h' (max K K') (by omega)
  rw [a] at b
  exact Option.some.inj b
end Go.Proofs.YtdcglkdgepdnpaaW.PrintWords
namespace Go.Proofs.Ytdcglkdgepdnpaa.Base
open Go.RowKit Go.Proofs.YtdcglkdgepdnpaaW.PrintWords Go.Proofs.YtdcglkdgepdnpaaW.PrintLast Go.Proofs.YtdcglkdgepdnpaaW.PrintMore
set_option linter.unusedVariables false
set_option linter.unusedSimpArgs false

theorem w64 {x : Int} (h0 : -9223372036854775808 ≤ x) (h1 : x ≤ 9223372036854775807) : wrap64 x = x := by unfold wrap64; omega
theorem rd_get {xs : List Int} {i : Nat} (h : i < xs.length) : rd xs (i : Int) = xs[i] := by
  unfold rd; simp [List.getD_eq_getElem?_getD, h]

theorem ediv_bounds {a b : Int} (hb : 0 < b) : (a / b) * b ≤ a ∧ a < (a / b) * b + b := by
  have h1 := Int.emod_nonneg a (b := b) (by omega)
  have h2 := Int.emod_lt_of_pos a hb
  have h3 := Int.emod_add_mul_ediv a b
  have h4 : b * (a / b) = (a / b) * b := Int.mul_comm _ _
  omega
theorem tdiv_cases {a b : Int} (hb : 0 < b) : (a.tdiv b = a / b ∧ a.tmod b = a % b ∧ (0 ≤ a ∨ a % b = 0)) ∨ (a.tdiv b = a / b + 1 ∧ a.tmod b = a % b - b ∧ a < 0 ∧ a % b ≠ 0) := by
  rw [Int.tdiv_eq_ediv, Int.tmod_eq_emod]
  by_cases h : 0 ≤ a ∨ b ∣ a
  · left
    rw [if_pos h, if_pos h]
    refine ⟨by omega, by omega, ?_⟩
    rcases h with h | h
    · exact .inl h
    · exact .inr (Int.emod_eq_zero_of_dvd h)
  · right
    rw [if_neg h, if_neg h, Int.sign_eq_one_of_pos hb]
    refine ⟨rfl, by omega, by omega, fun e => h (.inr (Int.dvd_of_emod_eq_zero e))⟩
theorem floorA {a b : Int} (hb : 0 < b) : (if a.tdiv b * b > a then a.tdiv b - 1 else a.tdiv b) = a / b := by
  have h := ediv_bounds (a := a) hb
  rcases tdiv_cases (a := a) hb with ⟨h1, h2, h3⟩ | ⟨h1, h2, h3, h4⟩
  · rw [h1, if_neg (by omega)]
  · have h5 : (a / b + 1) * b = a / b * b + b := by rw [Int.add_mul, Int.one_mul]
    rw [h1, if_pos (by rw [h5]; omega)]; omega
theorem floorB {a b : Int} (hb : 0 < b) : (if a.tmod b < 0 then a.tdiv b - 1 else a.tdiv b) = a / b := by
  have m1 := Int.emod_nonneg a (b := b) (by omega)
  have m2 := Int.emod_lt_of_pos a hb
  rcases tdiv_cases (a := a) hb with ⟨h1, h2, h3⟩ | ⟨h1, h2, h3, h4⟩
  · rw [h1, h2, if_neg (by omega)]
  · rw [h1, h2, if_pos (by omega)]; omega
theorem ediv_range {a b m : Int} (hb : 0 < b) (h1 : -m ≤ a) (h2 : a ≤ m) (hm : 0 ≤ m) : -m ≤ a / b ∧ a / b ≤ m := by
  constructor
  · rw [Int.le_ediv_iff_mul_le hb]
    have : -m * b ≤ -m * 1 := Int.mul_le_mul_of_nonpos_left (by omega) (by omega)
    omega
  · have := Int.ediv_le_ediv hb h2
    have : m / b ≤ m := Int.ediv_le_self b hm
    omega
theorem tdiv_range {a b m : Int} (hb : 0 < b) (h1 : -m ≤ a) (h2 : a ≤ m) (hm : 0 ≤ m) : -m ≤ a.tdiv b ∧ a.tdiv b ≤ m := by
  have h := ediv_range hb h1 h2 hm
  rcases tdiv_cases (a := a) hb with ⟨e, _⟩ | ⟨e, _, h3, _⟩
  · rw [e]; exact h
  · have : a / b < 0 := Int.ediv_neg_of_neg_of_pos h3 hb
    rw [e]; omega

def wsum (a : Int) (l : List Int) : Int := l.foldl (fun a x => wrap64 (a + x)) a
theorem wsum_cons (a x : Int) (l : List Int) : wsum a (x :: l) = wsum (wrap64 (a + x)) l := rfl
theorem wsum_eq (m : Int) : ∀ (l : List Int) (a : Int), (∀ x ∈ l, -m ≤ x ∧ x ≤ m) → 0 ≤ m → -9223372036854775808 ≤ a - m * l.length → a + m * l.length ≤ 9223372036854775807 → wsum a l = a + l.sum
  | [], a, _, _, _, _ => by simp [wsum]
  | x :: l, a, h, hm, h0, h1 => by
    have hx := h x List.mem_cons_self
    have e : m * ((x :: l).length : Int) = m * l.length + m := by rw [List.length_cons, Int.natCast_succ, Int.mul_add, Int.mul_one]
    have hp : 0 ≤ m * (l.length : Int) := Int.mul_nonneg hm (by omega)
    rw [e] at h0 h1
    rw [wsum_cons, w64 (by omega) (by omega), wsum_eq m l (a + x) (fun y hy => h y (List.mem_cons_of_mem _ hy)) hm (by omega) (by omega), List.sum_cons]
    omega
def bump (c : List Int) (p : Int) : List Int := c.set p.toNat (wrap64 (rd c p + 1))
def tally (c l : List Int) : List Int := l.foldl bump c
end Go.Proofs.Ytdcglkdgepdnpaa.Base
