/- Plain lemmas: the lists of all starts in an order, and mixtures put together list by list. No condition. -/
import Derived.Test.YtlhpejabdmejbaaBase
import Derived.Test.YtlhpejabdmejbaaLists
import Derived.Test.YtlhpejabdmejbaaPsum
import Derived.Test.YtlhpejabdmejbaaMix
import Derived.Test.YtlhpejabdmejbaaCeil
import Derived.Test.YtlhpejabdmejbaaRnd
import Derived.Test.YtlhpejabdmejbaaPair
import Derived.Test.YtlhpejabdmejbaaCut
namespace Go.Proofs.Ytlhpejabdmejbaa.Base
open Go.RowKit Go.Proofs.YtlhpejabdmejbaaW.PrintWords Go.Proofs.YtlhpejabdmejbaaW.PrintLast Go.Proofs.YtlhpejabdmejbaaW.PrintMore
set_option linter.unusedVariables false
set_option linter.unusedSimpArgs false
def srow (D : Int) (nums : List Int) : List Int → Int → List Int → List Int
  | [], _, l => l
  | i :: o, a, l => srow D nums o (a + nums.getD i.toNat 0) (l.set i.toNat ((a + nums.getD i.toNat 0) / D - a / D))
def sofar (nums : List Int) (o : List Int) : Int := (o.map fun i => nums.getD i.toNat 0).sum
def herm (D : Nat) (y : Int) : Int := ((List.range D).map fun t : Nat => ((t : Int) + y) / (D : Int)).sum
def fidx : List (List Int) → List Int → Nat
  | [], _ => 0
  | x :: L, r => if x = r then 0 else fidx L r + 1
theorem fidx_le : ∀ (L : List (List Int)) (r : List Int), fidx L r ≤ L.length
  | [], _ => Nat.le_refl _
  | x :: L, r => by
    have := fidx_le L r
    simp only [fidx, List.length_cons]
    split <;> omega
theorem fidx_lt : ∀ (L : List (List Int)) (r : List Int), fidx L r < L.length → L.getD (fidx L r) [] = r
  | [], _, h => by simp at h
  | x :: L, r, h => by
    by_cases c : x = r
    · simp [fidx, c]
    · simp only [fidx, if_neg c, List.length_cons] at h ⊢
      rw [List.getD_cons_succ]
      exact fidx_lt L r (by omega)
theorem fidx_first : ∀ (L : List (List Int)) (r : List Int) (j : Nat), j < fidx L r → L.getD j [] ≠ r
  | [], _, _, h => by simp [fidx] at h
  | x :: L, r, j, h => by
    by_cases c : x = r
    · simp [fidx, c] at h
    · simp only [fidx, if_neg c] at h
      cases j with
      | zero => rw [List.getD_cons_zero]; exact c
      | succ j => rw [List.getD_cons_succ]; exact fidx_first L r j (by omega)
theorem fidx_eq (L : List (List Int)) (r : List Int) (i : Nat) (h0 : ∀ j, j < i → L.getD j [] ≠ r) (h1 : i ≤ L.length) (h2 : i < L.length → L.getD i [] = r) : fidx L r = i := by
  rcases Nat.lt_trichotomy (fidx L r) i with c | c | c
  · exact absurd (fidx_lt L r (by omega)) (h0 _ c)
  · exact c
  · have := fidx_le L r
    exact absurd (h2 (by omega)) (fidx_first L r i c)
def addM (W : List Int) (L : List (List Int)) (r : List Int) (w : Int) : List Int × List (List Int) := if fidx L r < L.length then (W.set (fidx L r) (W.getD (fidx L r) 0 + w), L) else (W ++ [w], L ++ [r])
def wphi (φ : List Int → Int) (W : List Int) (L : List (List Int)) (i : Nat) : Int := ((List.range i).map fun q => W.getD q 0 * φ (L.getD q [])).sum
theorem wphi_succ (φ : List Int → Int) (W : List Int) (L : List (List Int)) (i : Nat) : wphi φ W L (i + 1) = wphi φ W L i + W.getD i 0 * φ (L.getD i []) := by
  unfold wphi
  rw [List.range_succ, List.map_append, List.sum_append]
  simp
theorem wphi_congr (φ : List Int → Int) {W W' : List Int} {L L' : List (List Int)} : ∀ i, (∀ q, q < i → W.getD q 0 = W'.getD q 0 ∧ L.getD q [] = L'.getD q []) → wphi φ W L i = wphi φ W' L' i
  | 0, _ => rfl
  | i + 1, h => by
    rw [wphi_succ, wphi_succ, wphi_congr φ i (fun q hq => h q (by omega)), (h i (by omega)).1, (h i (by omega)).2]
theorem getD_app_lt {α : Type} (a b : List α) (d : α) (q : Nat) (h : q < a.length) : (a ++ b).getD q d = a.getD q d := by
  simp [List.getD_eq_getElem?_getD, List.getElem?_append_left h]
theorem getD_app_at {α : Type} (a : List α) (x d : α) : (a ++ [x]).getD a.length d = x := by
  simp [List.getD_eq_getElem?_getD]
theorem wphi_push (φ : List Int → Int) (W : List Int) (L : List (List Int)) (r : List Int) (w : Int) (h : W.length = L.length) : wphi φ (W ++ [w]) (L ++ [r]) (L.length + 1) = wphi φ W L L.length + w * φ r := by
  rw [wphi_succ, wphi_congr φ L.length (W' := W) (L' := L) (fun q hq => ⟨getD_app_lt _ _ _ _ (by omega), getD_app_lt _ _ _ _ hq⟩), getD_app_at]
  rw [← h, getD_app_at]
def sysM (D : Int) (nums o : List Int) (n : Nat) : Nat → List Int × List (List Int)
  | 0 => ([], [])
  | t + 1 => addM (sysM D nums o n t).1 (sysM D nums o n t).2 (srow D nums o (t : Int) (List.replicate n 0)) 1
structure SI (D : Int) (nums o : List Int) (n t : Nat) : Prop where
  len : (sysM D nums o n t).1.length = (sysM D nums o n t).2.length
  le : (sysM D nums o n t).2.length ≤ t
  nd : (sysM D nums o n t).2.Nodup
  pos : ∀ x ∈ (sysM D nums o n t).1, 1 ≤ x
  mem : ∀ l, l ∈ (sysM D nums o n t).2 ↔ ∃ s, s < t ∧ l = srow D nums o (s : Int) (List.replicate n 0)
  phi : ∀ φ : List Int → Int, wphi φ (sysM D nums o n t).1 (sysM D nums o n t).2 (sysM D nums o n t).2.length = ((List.range t).map fun s : Nat => φ (srow D nums o (s : Int) (List.replicate n 0))).sum
theorem mem_le_sum : ∀ {W : List Int}, (∀ w ∈ W, 1 ≤ w) → (∀ w ∈ W, w ≤ W.sum) ∧ (W.length : Int) ≤ W.sum
  | [], _ => ⟨fun _ h => (by simp at h), by simp⟩
  | x :: W, h => by
    have h1 := mem_le_sum (W := W) (fun w hw => h w (List.mem_cons_of_mem _ hw))
    have h2 := h x List.mem_cons_self
    rw [List.sum_cons, List.length_cons]
    refine ⟨fun w hw => ?_, by omega⟩
    rcases List.mem_cons.1 hw with rfl | hw
    · omega
    · have := h1.1 w hw; omega
def upI (n : Nat) : List Int := (List.range n).map fun j : Nat => (j : Int)
theorem getD_sum : ∀ (l : List Int), ((List.range l.length).map fun i : Nat => l.getD i 0).sum = l.sum := by
  intro l
  congr 1
  apply List.ext_getElem
  · simp
  · intro i h1 h2
    simp [List.getD_eq_getElem?_getD, h2]
def SEEN (S : List Int) (n : Nat) : List Bool := (List.range n).map fun j : Nat => decide ((j : Int) ∈ S)
def ORD (o : List Int) (n : Nat) : Prop := o.length = n ∧ (∀ x ∈ o, 0 ≤ x ∧ x < (n : Int)) ∧ o.Nodup
end Go.Proofs.Ytlhpejabdmejbaa.Base
