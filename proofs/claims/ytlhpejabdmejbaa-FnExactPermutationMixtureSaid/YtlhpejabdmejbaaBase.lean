/- Plain lemmas: rounds ('Ev'), 64-bit numbers, division rounded down, lists. No condition. -/
import Derived.Test.YtlhpejabdmejbaaWMore
namespace Go.Proofs.YtlhpejabdmejbaaW.PrintWords
set_option linter.unusedVariables false
set_option linter.unusedSimpArgs false
theorem Ev.succ {α : Type} {g : Nat → Option α} {r : α} (h : Ev (fun k => g (k + 1)) r) : Ev g r := by
  obtain ⟨K, h⟩ := h
  refine ⟨K + 1, fun k hk => ?_⟩
  obtain ⟨m, rfl⟩ : ∃ m, k = m + 1 := ⟨k - 1, by omega⟩
  exact h m (by omega)
theorem Ev.to {α : Type} {g : Nat → Option α} {r r' : α} (h : Ev g r) (e : r = r') : Ev g r' := e ▸ h
theorem Ev.const {α : Type} {o : Option α} {r : α} (h : o = some r) : Ev (fun _ => o) r := ⟨0, fun _ _ => h⟩
theorem Ev.ret {α : Type} {g : Nat → Option α} {r r' : α} (h : Ev g r) (e : r = r') : Ev g r' := e ▸ h
theorem Ev.uniq {α : Type} {g : Nat → Option α} {r r' : α} (h : Ev g r) (h' : Ev g r') : r = r' := by
  obtain ⟨K, h⟩ := h
  obtain ⟨K', h'⟩ := h'
  have a := h (max K K') (by omega)
  have b := h' (max K K') (by omega)
  rw [a] at b
  exact Option.some.inj b
end Go.Proofs.YtlhpejabdmejbaaW.PrintWords
namespace Go.Proofs.Ytlhpejabdmejbaa.Base
open Go.RowKit Go.Proofs.YtlhpejabdmejbaaW.PrintWords Go.Proofs.YtlhpejabdmejbaaW.PrintLast Go.Proofs.YtlhpejabdmejbaaW.PrintMore
set_option linter.unusedVariables false
set_option linter.unusedSimpArgs false

theorem w64 {x : Int} (h0 : -9223372036854775808 ≤ x) (h1 : x ≤ 9223372036854775807) : wrap64 x = x := by unfold wrap64; omega
theorem rd_get {xs : List Int} {i : Nat} (h : i < xs.length) : rd xs (i : Int) = xs[i] := by
  unfold rd; simp [List.getD_eq_getElem?_getD, h]

def wsum (a : Int) (l : List Int) : Int := l.foldl (fun a x => wrap64 (a + x)) a
theorem wsum_cons (a x : Int) (l : List Int) : wsum a (x :: l) = wsum (wrap64 (a + x)) l := rfl
theorem wsum_eq (m : Int) : ∀ (l : List Int) (a : Int), (∀ x ∈ l, -m ≤ x ∧ x ≤ m) → 0 ≤ m → -9223372036854775808 ≤ a - m * l.length → a + m * l.length ≤ 9223372036854775807 → wsum a l = a + l.sum
  | [], a, _, _, _, _ => by simp [wsum]
  | x :: l, a, h, hm, h0, h1 => by
    have hx := h x List.mem_cons_self
    have e : m * ((x :: l).length : Int) = m * l.length + m := by rw [List.length_cons, Int.natCast_succ, Int.mul_add, Int.mul_one]
    have hp : 0 ≤ m * (l.length : Int) := Int.mul_nonneg hm (by omega)
    rw [e] at h0 h1
    rw [wsum_cons, w64 (by omega) (by omega), wsum_eq m l (a + x) (fun y hy => h y (List.mem_cons_of_mem _ hy)) hm (by omega) (by omega), List.sum_cons]
    omega
def bump (c : List Int) (p : Int) : List Int := c.set p.toNat (wrap64 (rd c p + 1))
def tally (c l : List Int) : List Int := l.foldl bump c
end Go.Proofs.Ytlhpejabdmejbaa.Base
