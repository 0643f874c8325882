/- Plain lemmas: numbers that are open by one, gone through in order: the next is the next code. No condition. -/
import Derived.Test.YtdcglkdgepdnpaaLists
namespace Go.Proofs.Ytdcglkdgepdnpaa.Base
open Go.RowKit Go.Proofs.YtdcglkdgepdnpaaW.PrintWords Go.Proofs.YtdcglkdgepdnpaaW.PrintLast Go.Proofs.YtdcglkdgepdnpaaW.PrintMore
set_option linter.unusedVariables false
set_option linter.unusedSimpArgs false
def opens : List (Int × Bool) → Nat
  | [] => 0
  | c :: r => (if c.2 = true then 1 else 0) + opens r
def asg : List (Int × Bool) → Nat → List Int
  | [], _ => []
  | c :: r, n => (if c.2 = true then c.1 + ((n / 2 ^ opens r % 2 : Nat) : Int) else c.1) :: asg r n
def nx : List (Int × Bool) → List Int → Bool × List Int
  | c :: r, x :: xs => if (nx r xs).1 = true then (true, x :: (nx r xs).2) else if c.2 = true then (if x = c.1 then (true, (x + 1) :: (nx r xs).2) else (false, c.1 :: (nx r xs).2)) else (false, x :: (nx r xs).2)
  | _, xs => (false, xs)
theorem div_step {P n : Nat} (hP : 0 < P) : (n % P + 1 < P → (n + 1) / P = n / P) ∧ (¬ n % P + 1 < P → (n + 1) / P = n / P + 1) := by
  have h1 := Nat.div_add_mod n P
  have h2 := Nat.mod_lt n hP
  have h3 : (n / P + 1) * P = P * (n / P) + P := by rw [Nat.succ_mul, Nat.mul_comm]
  have h4 : (n / P) * P = P * (n / P) := Nat.mul_comm _ _
  have h5 : (n / P + 1 + 1) * P = P * (n / P) + P + P := by rw [Nat.succ_mul, h3]
  refine ⟨fun h => ?_, fun h => ?_⟩
  · exact Nat.div_eq_of_lt_le (by omega) (by omega)
  · exact Nat.div_eq_of_lt_le (by omega) (by omega)
theorem nx_asg : ∀ (cs : List (Int × Bool)) (n : Nat), nx cs (asg cs n) = (decide (n % 2 ^ opens cs + 1 < 2 ^ opens cs), asg cs (n + 1))
  | [], n => by simp [nx, asg, opens, Nat.mod_one]
  | c :: r, n => by
    have ih := nx_asg r n
    have hP : 0 < 2 ^ opens r := Nat.two_pow_pos _
    obtain ⟨hd1, hd2⟩ := div_step (n := n) hP
    have hlt := Nat.mod_lt n hP
    have hb := Nat.mod_lt (n / 2 ^ opens r) (show 0 < 2 by omega)
    rw [asg, nx, ih]
    by_cases o : c.2 = true
    · have hop : opens (c :: r) = opens r + 1 := by rw [opens, if_pos o]; omega
      have hm : n % 2 ^ (opens r + 1) = n % 2 ^ opens r + 2 ^ opens r * (n / 2 ^ opens r % 2) := by rw [Nat.pow_succ, Nat.mod_mul]
      have hp2 : 2 ^ (opens r + 1) = 2 ^ opens r * 2 := Nat.pow_succ ..
      rw [hop, hm, hp2, asg]
      simp only [if_pos o, decide_eq_true_eq]
      by_cases h : n % 2 ^ opens r + 1 < 2 ^ opens r
      · rw [if_pos h, hd1 h]
        have hx : 2 ^ opens r * (n / 2 ^ opens r % 2) ≤ 2 ^ opens r * 1 := Nat.mul_le_mul_left _ (by omega)
        rw [decide_eq_true (show n % 2 ^ opens r + 2 ^ opens r * (n / 2 ^ opens r % 2) + 1 < 2 ^ opens r * 2 by omega)]
      · rw [if_neg h, hd2 h]
        rcases (show n / 2 ^ opens r % 2 = 0 ∨ n / 2 ^ opens r % 2 = 1 by omega) with e | e
        · rw [e, if_pos (by simp), show (n / 2 ^ opens r + 1) % 2 = 1 by omega, decide_eq_true (show n % 2 ^ opens r + 2 ^ opens r * 0 + 1 < 2 ^ opens r * 2 by omega)]
          simp
        · rw [e, if_neg (show ¬ c.1 + ((1 : Nat) : Int) = c.1 by omega), show (n / 2 ^ opens r + 1) % 2 = 0 by omega, decide_eq_false (show ¬ n % 2 ^ opens r + 2 ^ opens r * 1 + 1 < 2 ^ opens r * 2 by omega)]
          simp
    · have hop : opens (c :: r) = opens r := by rw [opens, if_neg o]; omega
      rw [hop, asg]
      simp only [if_neg o, decide_eq_true_eq]
      by_cases h : n % 2 ^ opens r + 1 < 2 ^ opens r
      · rw [if_pos h, decide_eq_true h]
      · rw [if_neg h, decide_eq_false h]
theorem asg_len : ∀ (cs : List (Int × Bool)) (n : Nat), (asg cs n).length = cs.length
  | [], _ => rfl
  | c :: r, n => by rw [asg, List.length_cons, List.length_cons, asg_len r n]
theorem asg_zero : ∀ (cs : List (Int × Bool)), asg cs 0 = cs.map (·.1)
  | [] => rfl
  | c :: r => by
    rw [asg, asg_zero r, List.map_cons, Nat.zero_div]
    split <;> simp
def opensR : List (List (Int × Bool)) → Nat
  | [] => 0
  | r :: rs => opens r + opensR rs
def asgR : List (List (Int × Bool)) → Nat → List (List Int)
  | [], _ => []
  | r :: rs, n => asg r (n / 2 ^ opensR rs) :: asgR rs n
def nxR : List (List (Int × Bool)) → List (List Int) → Bool × List (List Int)
  | r :: rs, x :: xs => if (nxR rs xs).1 = true then (true, x :: (nxR rs xs).2) else ((nx r x).1, (nx r x).2 :: (nxR rs xs).2)
  | _, xs => (false, xs)
theorem nxR_asgR : ∀ (T : List (List (Int × Bool))) (n : Nat), nxR T (asgR T n) = (decide (n % 2 ^ opensR T + 1 < 2 ^ opensR T), asgR T (n + 1))
  | [], n => by simp [nxR, asgR, opensR, Nat.mod_one]
  | r :: rs, n => by
    have ih := nxR_asgR rs n
    have hP : 0 < 2 ^ opensR rs := Nat.two_pow_pos _
    have hQ : 0 < 2 ^ opens r := Nat.two_pow_pos _
    obtain ⟨hd1, hd2⟩ := div_step (n := n) hP
    have hlt := Nat.mod_lt n hP
    have hq := Nat.mod_lt (n / 2 ^ opensR rs) hQ
    have hm : n % 2 ^ (opens r + opensR rs) = n % 2 ^ opensR rs + 2 ^ opensR rs * (n / 2 ^ opensR rs % 2 ^ opens r) := by rw [Nat.add_comm, Nat.pow_add, Nat.mod_mul]
    have hp2 : 2 ^ (opens r + opensR rs) = 2 ^ opensR rs * 2 ^ opens r := by rw [Nat.add_comm, Nat.pow_add]
    rw [asgR, nxR, ih, nx_asg r, opensR, hm, hp2, asgR]
    simp only [decide_eq_true_eq]
    have hk : 2 ^ opensR rs * (n / 2 ^ opensR rs % 2 ^ opens r) + 2 ^ opensR rs ≤ 2 ^ opensR rs * 2 ^ opens r := by
      rw [← Nat.mul_succ]; exact Nat.mul_le_mul_left _ hq
    by_cases h : n % 2 ^ opensR rs + 1 < 2 ^ opensR rs
    · rw [if_pos h, hd1 h, decide_eq_true (show n % 2 ^ opensR rs + 2 ^ opensR rs * (n / 2 ^ opensR rs % 2 ^ opens r) + 1 < 2 ^ opensR rs * 2 ^ opens r by omega)]
    · rw [if_neg h, hd2 h]
      by_cases h2 : n / 2 ^ opensR rs % 2 ^ opens r + 1 < 2 ^ opens r
      · have h3 : 2 ^ opensR rs * (n / 2 ^ opensR rs % 2 ^ opens r + 1) + 2 ^ opensR rs ≤ 2 ^ opensR rs * 2 ^ opens r := by
          rw [← Nat.mul_succ]; exact Nat.mul_le_mul_left _ h2
        rw [Nat.mul_succ] at h3
        rw [decide_eq_true h2, decide_eq_true (show n % 2 ^ opensR rs + 2 ^ opensR rs * (n / 2 ^ opensR rs % 2 ^ opens r) + 1 < 2 ^ opensR rs * 2 ^ opens r by omega)]
      · have e : n / 2 ^ opensR rs % 2 ^ opens r + 1 = 2 ^ opens r := by omega
        have h3 : 2 ^ opensR rs * (n / 2 ^ opensR rs % 2 ^ opens r) + 2 ^ opensR rs = 2 ^ opensR rs * 2 ^ opens r := by rw [← Nat.mul_succ, Nat.succ_eq_add_one, e]
        rw [decide_eq_false h2, decide_eq_false (show ¬ n % 2 ^ opensR rs + 2 ^ opensR rs * (n / 2 ^ opensR rs % 2 ^ opens r) + 1 < 2 ^ opensR rs * 2 ^ opens r by omega)]
theorem asgR_zero : ∀ (T : List (List (Int × Bool))), asgR T 0 = T.map fun r => r.map (·.1)
  | [] => rfl
  | r :: rs => by rw [asgR, asgR_zero rs, List.map_cons, Nat.zero_div, asg_zero]
theorem asgR_len : ∀ (T : List (List (Int × Bool))) (n : Nat), (asgR T n).length = T.length
  | [], _ => rfl
  | r :: rs, n => by rw [asgR, List.length_cons, List.length_cons, asgR_len rs n]
def FLD {σ : Type} (p : Nat → Bool) (g : Nat → σ → σ) : Nat → Nat → σ → σ
  | _, 0, s => s
  | n, m + 1, s => FLD p g (n + 1) m (if p n = true then g n s else s)
theorem FLD_succ {σ : Type} (p : Nat → Bool) (g : Nat → σ → σ) (n m : Nat) (s : σ) : FLD p g n (m + 1) s = FLD p g (n + 1) m (if p n = true then g n s else s) := rfl
end Go.Proofs.Ytdcglkdgepdnpaa.Base
