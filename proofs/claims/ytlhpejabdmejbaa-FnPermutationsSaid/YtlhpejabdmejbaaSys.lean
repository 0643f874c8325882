/- Plain lemmas: the lists of all starts in an order, and mixtures put together list by list. No condition. -/
import Derived.Test.YtlhpejabdmejbaaBase
import Derived.Test.YtlhpejabdmejbaaLists
import Derived.Test.YtlhpejabdmejbaaPsum
import Derived.Test.YtlhpejabdmejbaaMix
import Derived.Test.YtlhpejabdmejbaaCeil
import Derived.Test.YtlhpejabdmejbaaRnd
import Derived.Test.YtlhpejabdmejbaaPair
import Derived.Test.YtlhpejabdmejbaaCut
namespace Go.Proofs.Ytlhpejabdmejbaa.Base
open Go.RowKit Go.Proofs.YtlhpejabdmejbaaW.PrintWords Go.Proofs.YtlhpejabdmejbaaW.PrintLast Go.Proofs.YtlhpejabdmejbaaW.PrintMore
set_option linter.unusedVariables false
set_option linter.unusedSimpArgs false
/-- The list of a start, from a place in the order on. -/
def srow (D : Int) (nums : List Int) : List Int → Int → List Int → List Int
  | [], _, l => l
  | i :: o, a, l => srow D nums o (a + nums.getD i.toNat 0) (l.set i.toNat ((a + nums.getD i.toNat 0) / D - a / D))
def sofar (nums : List Int) (o : List Int) : Int := (o.map fun i => nums.getD i.toNat 0).sum
theorem sofar_cons (nums : List Int) (i : Int) (o : List Int) : sofar nums (i :: o) = nums.getD i.toNat 0 + sofar nums o := by simp [sofar]
theorem srow_length (D : Int) (nums : List Int) : ∀ (o : List Int) (a : Int) (l : List Int), (srow D nums o a l).length = l.length
  | [], _, _ => rfl
  | i :: o, a, l => by rw [srow, srow_length D nums o]; simp
theorem srow_other (D : Int) (nums : List Int) (j : Nat) : ∀ (o : List Int) (a : Int) (l : List Int), (∀ i ∈ o, i.toNat ≠ j) → (srow D nums o a l).getD j 0 = l.getD j 0
  | [], _, _, _ => rfl
  | i :: o, a, l, h => by
    rw [srow, srow_other D nums j o _ _ (fun q hq => h q (List.mem_cons_of_mem _ hq))]
    have := h i List.mem_cons_self
    simp [List.getD_eq_getElem?_getD, List.getElem?_set, this]
theorem set_getD_self (l : List Int) (i : Nat) (x : Int) (h : i < l.length) : (l.set i x).getD i 0 = x := by
  simp [List.getD_eq_getElem?_getD, h]
theorem srow_at (D : Int) (nums : List Int) (i : Int) (post : List Int) (hp : ∀ q ∈ post, q.toNat ≠ i.toNat) : ∀ (pre : List Int) (a : Int) (l : List Int), i.toNat < l.length → (srow D nums (pre ++ i :: post) a l).getD i.toNat 0 = (a + sofar nums pre + nums.getD i.toNat 0) / D - (a + sofar nums pre) / D
  | [], a, l, h => by
    rw [List.nil_append, srow, srow_other D nums _ post _ _ hp, set_getD_self _ _ _ h]
    simp [sofar]
  | q :: pre, a, l, h => by
    rw [List.cons_append, srow, srow_at D nums i post hp pre _ _ (by simpa using h), sofar_cons]
    simp only [Int.add_assoc]
theorem srow_pre (D : Int) (nums : List Int) (post : List Int) : ∀ (pre : List Int) (a : Int) (l : List Int), ((pre ++ post).map Int.toNat).Nodup → (∀ i ∈ pre, i.toNat < l.length) → (pre.map fun i => (srow D nums (pre ++ post) a l).getD i.toNat 0).sum = (a + sofar nums pre) / D - a / D
  | [], a, l, _, _ => by simp [sofar]
  | i :: pre, a, l, hn, hl => by
    have hi := hl i List.mem_cons_self
    rw [List.cons_append, List.map_cons, List.nodup_cons] at hn
    have ih := srow_pre D nums post pre (a + nums.getD i.toNat 0) (l.set i.toNat ((a + nums.getD i.toNat 0) / D - a / D)) hn.2 (fun q hq => by simpa using hl q (List.mem_cons_of_mem _ hq))
    rw [List.cons_append, List.map_cons, List.sum_cons, srow, ih, srow_other D nums _ _ _ _ (fun q hq e => hn.1 (List.mem_map.2 ⟨q, hq, e⟩)), set_getD_self _ _ _ hi, sofar_cons]
    rw [show a + nums.getD i.toNat 0 + sofar nums pre = a + (nums.getD i.toNat 0 + sofar nums pre) by omega]
    omega
/-- The sum of what a start gets of y, over all starts, is y. -/
theorem range_shift (f : Nat → Int) : ∀ n, ((List.range n).map fun t => f (t + 1)).sum + f 0 = ((List.range n).map f).sum + f n
  | 0 => by simp
  | n + 1 => by
    have := range_shift f n
    rw [List.range_succ, List.map_append, List.map_append, List.sum_append, List.sum_append]
    simp only [List.map_cons, List.map_nil, List.sum_cons, List.sum_nil]
    omega
def herm (D : Nat) (y : Int) : Int := ((List.range D).map fun t : Nat => ((t : Int) + y) / (D : Int)).sum
theorem herm_succ (D : Nat) (hD : 0 < D) (y : Int) : herm D (y + 1) = herm D y + 1 := by
  have h := range_shift (fun t : Nat => ((t : Int) + y) / (D : Int)) D
  have e1 : ((D : Int) + y) / (D : Int) = y / (D : Int) + 1 := by
    rw [Int.add_comm, Int.add_ediv_of_dvd_right (Int.dvd_refl _), Int.ediv_self (by omega)]
  have e2 : ((List.range D).map fun t : Nat => (((t + 1 : Nat) : Int) + y) / (D : Int)).sum = herm D (y + 1) := by
    unfold herm
    congr 1
    apply List.map_congr_left
    intro t _
    congr 1
    omega
  simp only [e2, e1] at h
  have e3 : ((List.range D).map fun t : Nat => ((t : Int) + y) / (D : Int)).sum = herm D y := rfl
  rw [e3] at h
  simp only [Int.natCast_zero, Int.zero_add] at h
  omega
theorem herm_zero (D : Nat) : herm D 0 = 0 := by
  unfold herm
  have : ((List.range D).map fun t : Nat => ((t : Int) + 0) / (D : Int)) = (List.range D).map fun _ => (0 : Int) := by
    apply List.map_congr_left
    intro t ht
    have := List.mem_range.1 ht
    rw [Int.add_zero]
    exact Int.ediv_eq_zero_of_lt (by omega) (by omega)
  rw [this]
  have z : ∀ l : List Nat, (l.map fun _ => (0 : Int)).sum = 0 := by
    intro l
    induction l with
    | nil => rfl
    | cons x l ih => simp [ih]
  exact z _
theorem herm_eq (D : Nat) (hD : 0 < D) (y : Int) : herm D y = y := by
  have hp : ∀ n : Nat, herm D (n : Int) = n := by
    intro n
    induction n with
    | zero => exact herm_zero D
    | succ n ih =>
      have := herm_succ D hD (n : Int)
      rw [show ((n + 1 : Nat) : Int) = (n : Int) + 1 by omega]; omega
  have hm : ∀ n : Nat, herm D (-(n : Int)) = -n := by
    intro n
    induction n with
    | zero => exact herm_zero D
    | succ n ih =>
      have := herm_succ D hD (-((n + 1 : Nat) : Int))
      rw [show -((n + 1 : Nat) : Int) + 1 = -(n : Int) by omega] at this; omega
  by_cases c : 0 ≤ y
  · obtain ⟨n, rfl⟩ := Int.eq_ofNat_of_zero_le c; exact hp n
  · obtain ⟨n, e⟩ := Int.eq_ofNat_of_zero_le (show 0 ≤ -y by omega)
    have := hm n
    rw [← e] at this
    rw [show y = - -y by omega]
    exact this
/-- Where a list stands first. -/
def fidx : List (List Int) → List Int → Nat
  | [], _ => 0
  | x :: L, r => if x = r then 0 else fidx L r + 1
theorem fidx_le : ∀ (L : List (List Int)) (r : List Int), fidx L r ≤ L.length
  | [], _ => Nat.le_refl _
  | x :: L, r => by
    have := fidx_le L r
    simp only [fidx, List.length_cons]
    split <;> omega
theorem fidx_lt : ∀ (L : List (List Int)) (r : List Int), fidx L r < L.length → L.getD (fidx L r) [] = r
  | [], _, h => by simp at h
  | x :: L, r, h => by
    by_cases c : x = r
    · simp [fidx, c]
    · simp only [fidx, if_neg c, List.length_cons] at h ⊢
      rw [List.getD_cons_succ]
      exact fidx_lt L r (by omega)
theorem fidx_first : ∀ (L : List (List Int)) (r : List Int) (j : Nat), j < fidx L r → L.getD j [] ≠ r
  | [], _, _, h => by simp [fidx] at h
  | x :: L, r, j, h => by
    by_cases c : x = r
    · simp [fidx, c] at h
    · simp only [fidx, if_neg c] at h
      cases j with
      | zero => rw [List.getD_cons_zero]; exact c
      | succ j => rw [List.getD_cons_succ]; exact fidx_first L r j (by omega)
theorem fidx_eq (L : List (List Int)) (r : List Int) (i : Nat) (h0 : ∀ j, j < i → L.getD j [] ≠ r) (h1 : i ≤ L.length) (h2 : i < L.length → L.getD i [] = r) : fidx L r = i := by
  rcases Nat.lt_trichotomy (fidx L r) i with c | c | c
  · exact absurd (fidx_lt L r (by omega)) (h0 _ c)
  · exact c
  · have := fidx_le L r
    exact absurd (h2 (by omega)) (fidx_first L r i c)
/-- A list with a weight is put into a mixture. -/
def addM (W : List Int) (L : List (List Int)) (r : List Int) (w : Int) : List Int × List (List Int) := if fidx L r < L.length then (W.set (fidx L r) (W.getD (fidx L r) 0 + w), L) else (W ++ [w], L ++ [r])
/-- Weighted sums of a mixture. -/
def wphi (φ : List Int → Int) (W : List Int) (L : List (List Int)) (i : Nat) : Int := ((List.range i).map fun q => W.getD q 0 * φ (L.getD q [])).sum
theorem wphi_succ (φ : List Int → Int) (W : List Int) (L : List (List Int)) (i : Nat) : wphi φ W L (i + 1) = wphi φ W L i + W.getD i 0 * φ (L.getD i []) := by
  unfold wphi
  rw [List.range_succ, List.map_append, List.sum_append]
  simp
theorem mcol_wphi (W : List Int) (L : List (List Int)) (i k : Nat) : mcol W L i k = wphi (fun l => l.getD k 0) W L i := rfl
theorem wphi_congr (φ : List Int → Int) {W W' : List Int} {L L' : List (List Int)} : ∀ i, (∀ q, q < i → W.getD q 0 = W'.getD q 0 ∧ L.getD q [] = L'.getD q []) → wphi φ W L i = wphi φ W' L' i
  | 0, _ => rfl
  | i + 1, h => by
    rw [wphi_succ, wphi_succ, wphi_congr φ i (fun q hq => h q (by omega)), (h i (by omega)).1, (h i (by omega)).2]
theorem getD_app_lt {α : Type} (a b : List α) (d : α) (q : Nat) (h : q < a.length) : (a ++ b).getD q d = a.getD q d := by
  simp [List.getD_eq_getElem?_getD, List.getElem?_append_left h]
theorem getD_app_at {α : Type} (a : List α) (x d : α) : (a ++ [x]).getD a.length d = x := by
  simp [List.getD_eq_getElem?_getD]
theorem wphi_push (φ : List Int → Int) (W : List Int) (L : List (List Int)) (r : List Int) (w : Int) (h : W.length = L.length) : wphi φ (W ++ [w]) (L ++ [r]) (L.length + 1) = wphi φ W L L.length + w * φ r := by
  rw [wphi_succ, wphi_congr φ L.length (W' := W) (L' := L) (fun q hq => ⟨getD_app_lt _ _ _ _ (by omega), getD_app_lt _ _ _ _ hq⟩), getD_app_at]
  rw [← h, getD_app_at]
theorem wphi_set (φ : List Int → Int) (W : List Int) (L : List (List Int)) (i : Nat) (w : Int) (h : i < W.length) : ∀ n, wphi φ (W.set i (W.getD i 0 + w)) L n = wphi φ W L n + (if i < n then w * φ (L.getD i []) else 0)
  | 0 => by simp [wphi]
  | n + 1 => by
    rw [wphi_succ, wphi_succ, wphi_set φ W L i w h n]
    by_cases c : i = n
    · subst c
      rw [set_getD_self _ _ _ h, if_neg (Nat.lt_irrefl _), if_pos (Nat.lt_succ_self _), Int.add_mul]
      omega
    · have e : (W.set i (W.getD i 0 + w)).getD n 0 = W.getD n 0 := by simp [List.getD_eq_getElem?_getD, List.getElem?_set, c]
      rw [e]
      by_cases c2 : i < n
      · rw [if_pos c2, if_pos (by omega)]; omega
      · rw [if_neg c2, if_neg (by omega)]; omega
theorem addM_phi (φ : List Int → Int) (W : List Int) (L : List (List Int)) (r : List Int) (w : Int) (h : W.length = L.length) : wphi φ (addM W L r w).1 (addM W L r w).2 (addM W L r w).2.length = wphi φ W L L.length + w * φ r := by
  unfold addM
  by_cases c : fidx L r < L.length
  · simp only [if_pos c]
    rw [wphi_set φ W L _ w (by omega), if_pos c, fidx_lt L r c]
  · simp only [if_neg c, List.length_append, List.length_singleton]
    exact wphi_push φ W L r w h
theorem addM_length (W : List Int) (L : List (List Int)) (r : List Int) (w : Int) (h : W.length = L.length) : (addM W L r w).1.length = (addM W L r w).2.length := by
  unfold addM
  by_cases c : fidx L r < L.length
  · simp only [if_pos c, List.length_set]; exact h
  · simp only [if_neg c, List.length_append, List.length_singleton]; omega
theorem addM_mem (W : List Int) (L : List (List Int)) (r : List Int) (w : Int) (l : List Int) : l ∈ (addM W L r w).2 ↔ l ∈ L ∨ l = r := by
  unfold addM
  by_cases c : fidx L r < L.length
  · simp only [if_pos c]
    refine ⟨.inl, fun h => h.elim id fun e => ?_⟩
    subst e
    have := fidx_lt L l c
    rw [← this]
    simp [List.getD_eq_getElem?_getD, c]
  · simp only [if_neg c]
    simp
theorem addM_nodup (W : List Int) (L : List (List Int)) (r : List Int) (w : Int) (h : L.Nodup) : (addM W L r w).2.Nodup := by
  unfold addM
  by_cases c : fidx L r < L.length
  · simpa only [if_pos c] using h
  · simp only [if_neg c]
    rw [List.nodup_append]
    refine ⟨h, by simp, fun a ha b hb e => c ?_⟩
    rw [List.mem_singleton.1 hb] at e
    subst e
    obtain ⟨j, hj, e⟩ := List.getElem_of_mem ha
    rcases Nat.lt_or_ge (fidx L a) L.length with h' | h'
    · exact h'
    · exact absurd (by simp [List.getD_eq_getElem?_getD, hj, e]) (fidx_first L a j (by omega))
theorem addM_pos (W : List Int) (L : List (List Int)) (r : List Int) (w : Int) (hw : 1 ≤ w) (hl : W.length = L.length) (h : ∀ x ∈ W, 1 ≤ x) : ∀ x ∈ (addM W L r w).1, 1 ≤ x := by
  unfold addM
  by_cases c : fidx L r < L.length
  · simp only [if_pos c]
    intro x hx
    rcases List.mem_or_eq_of_mem_set hx with h' | h'
    · exact h x h'
    · have := h (W.getD (fidx L r) 0) (getD_mem (by omega)); omega
  · simp only [if_neg c]
    intro x hx
    rcases List.mem_append.1 hx with h' | h'
    · exact h x h'
    · rw [List.mem_singleton.1 h']; exact hw
theorem addM_len2 (W : List Int) (L : List (List Int)) (r : List Int) (w : Int) : (addM W L r w).2.length ≤ L.length + 1 := by
  unfold addM
  by_cases c : fidx L r < L.length
  · simp only [if_pos c]; omega
  · simp only [if_neg c]; simp
theorem wphi_one (W : List Int) (L : List (List Int)) : wphi (fun _ => 1) W L W.length = W.sum := by
  have : ∀ n, n ≤ W.length → wphi (fun _ => 1) W L n = psum W n := by
    intro n
    induction n with
    | zero => intro _; rw [psum_zero]; rfl
    | succ n ih => intro h; rw [wphi_succ, ih (by omega), psum_succ W n (by omega), Int.mul_one]
  rw [this _ (Nat.le_refl _), psum_all]
/-- The mixture of the first starts. -/
def sysM (D : Int) (nums o : List Int) (n : Nat) : Nat → List Int × List (List Int)
  | 0 => ([], [])
  | t + 1 => addM (sysM D nums o n t).1 (sysM D nums o n t).2 (srow D nums o (t : Int) (List.replicate n 0)) 1
structure SI (D : Int) (nums o : List Int) (n t : Nat) : Prop where
  len : (sysM D nums o n t).1.length = (sysM D nums o n t).2.length
  le : (sysM D nums o n t).2.length ≤ t
  nd : (sysM D nums o n t).2.Nodup
  pos : ∀ x ∈ (sysM D nums o n t).1, 1 ≤ x
  mem : ∀ l, l ∈ (sysM D nums o n t).2 ↔ ∃ s, s < t ∧ l = srow D nums o (s : Int) (List.replicate n 0)
  phi : ∀ φ : List Int → Int, wphi φ (sysM D nums o n t).1 (sysM D nums o n t).2 (sysM D nums o n t).2.length = ((List.range t).map fun s : Nat => φ (srow D nums o (s : Int) (List.replicate n 0))).sum
theorem sysM_inv (D : Int) (nums o : List Int) (n : Nat) : ∀ t, SI D nums o n t
  | 0 => ⟨rfl, Nat.le_refl _, List.nodup_nil, fun _ h => by simp [sysM] at h, fun l => by simp [sysM], fun φ => rfl⟩
  | t + 1 => by
    have ih := sysM_inv D nums o n t
    refine ⟨addM_length _ _ _ _ ih.len, ?_, addM_nodup _ _ _ _ ih.nd, addM_pos _ _ _ _ (by omega) ih.len ih.pos, fun l => ?_, fun φ => ?_⟩
    · have := addM_len2 (sysM D nums o n t).1 (sysM D nums o n t).2 (srow D nums o (t : Int) (List.replicate n 0)) 1
      have h := ih.le
      show (addM _ _ _ _).2.length ≤ _
      omega
    · show l ∈ (addM _ _ _ _).2 ↔ _
      rw [addM_mem, ih.mem]
      constructor
      · rintro (⟨s, h1, h2⟩ | h)
        · exact ⟨s, by omega, h2⟩
        · exact ⟨t, by omega, h⟩
      · rintro ⟨s, h1, h2⟩
        by_cases c : s = t
        · subst c; exact .inr h2
        · exact .inl ⟨s, by omega, h2⟩
    · show wphi φ (addM _ _ _ _).1 (addM _ _ _ _).2 (addM _ _ _ _).2.length = _
      rw [addM_phi φ _ _ _ _ ih.len, ih.phi φ, List.range_succ, List.map_append, List.sum_append]
      simp
theorem sysM_sum (D : Int) (nums o : List Int) (n t : Nat) : (sysM D nums o n t).1.sum = t := by
  have h := (sysM_inv D nums o n t)
  have := h.phi (fun _ => 1)
  rw [← h.len, wphi_one] at this
  rw [this]
  have z : ∀ l : List Nat, (l.map fun _ => (1 : Int)).sum = l.length := by
    intro l
    induction l with
    | nil => rfl
    | cons x l ih => simp [ih]; omega
  rw [z]
  simp
theorem mem_le_sum : ∀ {W : List Int}, (∀ w ∈ W, 1 ≤ w) → (∀ w ∈ W, w ≤ W.sum) ∧ (W.length : Int) ≤ W.sum
  | [], _ => ⟨fun _ h => (by simp at h), by simp⟩
  | x :: W, h => by
    have h1 := mem_le_sum (W := W) (fun w hw => h w (List.mem_cons_of_mem _ hw))
    have h2 := h x List.mem_cons_self
    rw [List.sum_cons, List.length_cons]
    refine ⟨fun w hw => ?_, by omega⟩
    rcases List.mem_cons.1 hw with rfl | hw
    · omega
    · have := h1.1 w hw; omega
/-- The order 0, 1, 2 .. -/
def upI (n : Nat) : List Int := (List.range n).map fun j : Nat => (j : Int)
theorem upI_length (n : Nat) : (upI n).length = n := by simp [upI]
theorem upI_mem {n : Nat} {x : Int} : x ∈ upI n ↔ 0 ≤ x ∧ x < n := by
  unfold upI
  rw [List.mem_map]
  constructor
  · rintro ⟨j, hj, rfl⟩
    have := List.mem_range.1 hj
    omega
  · rintro ⟨h0, h1⟩
    exact ⟨x.toNat, List.mem_range.2 (by omega), by omega⟩
theorem upI_getD {n i : Nat} (h : i < n) : (upI n).getD i 0 = i := by
  unfold upI
  simp [List.getD_eq_getElem?_getD, h]
theorem upI_pair (n : Nat) : (upI n).Pairwise (fun x y => x ≤ y) := by
  unfold upI
  rw [List.pairwise_map]
  exact List.Pairwise.imp (fun h => by omega) (List.pairwise_lt_range)
theorem upI_nodup (n : Nat) : (upI n).Nodup := by
  unfold upI List.Nodup
  rw [List.pairwise_map]
  exact List.Pairwise.imp (fun h => by omega) (List.pairwise_lt_range)
theorem sort_perm {o : List Int} {n : Nat} (h : o.Perm (upI n)) : o.mergeSort (fun x y => decide (x ≤ y)) = upI n := by
  have h1 : (o.mergeSort (fun x y => decide (x ≤ y))).Pairwise (fun x y => x ≤ y) := by
    have := List.pairwise_mergeSort (le := fun x y : Int => decide (x ≤ y)) (fun a b c => by simp only [decide_eq_true_eq]; omega) (fun a b => by simp only [Bool.or_eq_true, decide_eq_true_eq]; omega) o
    exact this.imp (fun h => by simpa using h)
  exact List.Perm.eq_of_pairwise (le := fun x y : Int => x ≤ y) (fun a b _ _ h k => by omega) h1 (upI_pair n) ((List.mergeSort_perm o _).trans h)
theorem perm_toNat {o : List Int} {n : Nat} (h : o.Perm (upI n)) : (o.map Int.toNat).Nodup := by
  have e : (upI n).map Int.toNat = List.range n := by
    unfold upI
    rw [List.map_map]
    apply List.ext_getElem
    · simp
    · intro i h1 h2; simp
  have := (h.map Int.toNat)
  rw [e] at this
  exact this.symm.nodup (List.nodup_range)
theorem perm_sum {a b : List Int} (h : a.Perm b) : a.sum = b.sum := by
  induction h with
  | nil => rfl
  | cons x _ ih => simp [ih]
  | swap x y l => simp only [List.sum_cons]; omega
  | trans _ _ h1 h2 => rw [h1, h2]
theorem getD_sum : ∀ (l : List Int), ((List.range l.length).map fun i : Nat => l.getD i 0).sum = l.sum := by
  intro l
  congr 1
  apply List.ext_getElem
  · simp
  · intro i h1 h2
    simp [List.getD_eq_getElem?_getD, h2]
/-- The sum of a list, in an order. -/
theorem sum_order {o l : List Int} (h : o.Perm (upI l.length)) : (o.map fun i => l.getD i.toNat 0).sum = l.sum := by
  rw [perm_sum (h.map (fun i : Int => l.getD i.toNat 0)), ← getD_sum l]
  congr 1
  unfold upI
  rw [List.map_map]
  apply List.map_congr_left
  intro i _
  simp
theorem perm_split {o : List Int} {n i : Nat} (h : o.Perm (upI n)) (hi : i < n) : ∃ pre post, o = pre ++ (i : Int) :: post ∧ ∀ q ∈ post, q.toNat ≠ ((i : Int)).toNat := by
  obtain ⟨pre, post, e⟩ := List.append_of_mem (h.mem_iff.2 (upI_mem.2 ⟨by omega, by omega⟩) : (i : Int) ∈ o)
  refine ⟨pre, post, e, fun q hq e2 => ?_⟩
  have := perm_toNat h
  rw [e, List.map_append, List.map_cons, List.nodup_append, List.nodup_cons] at this
  exact this.2.1.1 (List.mem_map.2 ⟨q, hq, e2⟩)
/-- One number of a start's list. -/
theorem start_at {D : Int} {nums o : List Int} {n i : Nat} (t : Int) (h : o.Perm (upI n)) (hi : i < n) : ∃ a : Int, ∀ t : Int, (srow D nums o t (List.replicate n 0)).getD i 0 = (t + a + nums.getD i 0) / D - (t + a) / D := by
  obtain ⟨pre, post, rfl, hp⟩ := perm_split h hi
  refine ⟨sofar nums pre, fun t => ?_⟩
  have := srow_at D nums (i : Int) post hp pre t (List.replicate n 0) (by simpa using hi)
  simpa using this
theorem map_sub_sum (f g : Nat → Int) : ∀ l : List Nat, (l.map fun x => f x - g x).sum = (l.map f).sum - (l.map g).sum
  | [] => rfl
  | x :: l => by simp only [List.map_cons, List.sum_cons, map_sub_sum f g l]; omega
/-- Over all starts each number comes to its numerator. -/
theorem start_total {D : Nat} (hD : 0 < D) {nums o : List Int} {n i : Nat} (h : o.Perm (upI n)) (hi : i < n) : ((List.range D).map fun s : Nat => (srow (D : Int) nums o (s : Int) (List.replicate n 0)).getD i 0).sum = nums.getD i 0 := by
  obtain ⟨a, ha⟩ := start_at (D := (D : Int)) (nums := nums) 0 h hi
  have e : ((List.range D).map fun s : Nat => (srow (D : Int) nums o (s : Int) (List.replicate n 0)).getD i 0) = (List.range D).map fun s : Nat => ((s : Int) + (a + nums.getD i 0)) / (D : Int) - ((s : Int) + a) / (D : Int) := by
    apply List.map_congr_left
    intro s _
    rw [ha, Int.add_assoc]
  rw [e, map_sub_sum]
  have h1 := herm_eq D hD (a + nums.getD i 0)
  have h2 := herm_eq D hD a
  unfold herm at h1 h2
  omega
theorem start_round {D x c : Int} (hD : 0 < D) : (c + x) / D - c / D = x / D ∨ (c + x) / D - c / D = ceilOf x D := by
  have hx := ediv_bounds (a := x) hD
  have hc := ediv_bounds (a := c) hD
  have e := Int.add_mul (x / D) (c / D) D
  by_cases h : c + x < (x / D + c / D) * D + D
  · left
    rw [ediv_uniq (a := c + x) (q := x / D + c / D) hD (by omega) h]
    omega
  · right
    have e2 : (x / D + c / D + 1) * D = (x / D + c / D) * D + D := by rw [Int.add_mul, Int.one_mul]
    rw [ediv_uniq (a := c + x) (q := x / D + c / D + 1) hD (by omega) (by omega)]
    have h1 := ceil_le (a := x) (k := x / D) hD
    have h2 := ceil_le (a := x) (k := x / D + 1) hD
    have e3 : (x / D + 1) * D = x / D * D + D := by rw [Int.add_mul, Int.one_mul]
    have g1 : ¬ ceilOf x D ≤ x / D := fun h' => by have := h1.1 h'; omega
    have g2 : ceilOf x D ≤ x / D + 1 := h2.2 (by omega)
    omega
theorem start_near {D t S : Int} (h0 : 0 ≤ t) (h1 : t < D) : -D < D * ((t + S) / D - t / D) - S ∧ D * ((t + S) / D - t / D) - S < D := by
  have hD : 0 < D := by omega
  have hx := ediv_bounds (a := t + S) hD
  rw [Int.ediv_eq_zero_of_lt h0 h1, Int.sub_zero, Int.mul_comm]
  omega
theorem floor_two {D t S : Int} (h0 : 0 ≤ t) (h1 : t < D) : (t + S) / D - t / D = S / D ∨ (t + S) / D - t / D = S / D + 1 := by
  have hD : 0 < D := by omega
  have hx := ediv_bounds (a := S) hD
  rw [Int.ediv_eq_zero_of_lt h0 h1, Int.sub_zero]
  by_cases h : t + S < S / D * D + D
  · left; exact ediv_uniq hD (by omega) h
  · right
    have e2 : (S / D + 1) * D = S / D * D + D := by rw [Int.add_mul, Int.one_mul]
    exact ediv_uniq hD (by omega) (by omega)
theorem start_sum {D : Int} {nums o : List Int} {n : Nat} (h : o.Perm (upI n)) (t : Int) : (srow D nums o t (List.replicate n 0)).sum = (t + sofar nums o) / D - t / D := by
  have hl : (srow D nums o t (List.replicate n 0)).length = n := by rw [srow_length]; simp
  have h1 := srow_pre D nums [] o t (List.replicate n 0) (by rw [List.append_nil]; exact perm_toNat h) (fun i hi => by
    have := upI_mem.1 (h.mem_iff.1 hi)
    rw [List.length_replicate]; omega)
  rw [List.append_nil] at h1
  rw [← h1, sum_order (by rw [hl]; exact h)]
theorem start_bnd {D : Int} (hD : 0 < D) {nums o : List Int} {n : Nat} (h : o.Perm (upI n)) (hn : nums.length = n) (hv : ∀ x ∈ nums, -1000000 ≤ x ∧ x ≤ 1000000) (t : Int) : ∀ x ∈ srow D nums o t (List.replicate n 0), -1000000 ≤ x ∧ x ≤ 1000000 := by
  intro x hx
  obtain ⟨i, hi, rfl⟩ := List.getElem_of_mem hx
  have hl : (srow D nums o t (List.replicate n 0)).length = n := by rw [srow_length]; simp
  have hin : i < n := by omega
  obtain ⟨a, ha⟩ := start_at (D := D) (nums := nums) 0 h hin
  have e := ha t
  have hv' := hv (nums.getD i 0) (getD_mem (by omega))
  rw [List.getD_eq_getElem?_getD, List.getElem?_eq_getElem hi, Option.getD_some] at e
  rw [e]
  have f1 := ediv_range (a := nums.getD i 0) (b := D) (m := 1000000) hD hv'.1 hv'.2 (by omega)
  have f2 := ceil_range (a := nums.getD i 0) (b := D) (m := 1000000) hD hv'.1 hv'.2 (by omega)
  rcases start_round (D := D) (x := nums.getD i 0) (c := t + a) hD with h' | h'
  · rw [h']; exact f1
  · rw [h']; unfold ceilOf; omega
theorem start_rnd {D : Int} (hD : 0 < D) {nums o : List Int} {n : Nat} (h : o.Perm (upI n)) (hn : nums.length = n) (t : Int) : RND D nums (srow D nums o t (List.replicate n 0)) = true := by
  have hl : (srow D nums o t (List.replicate n 0)).length = n := by rw [srow_length]; simp
  unfold RND
  simp only [Bool.and_eq_true, decide_eq_true_eq, List.all_eq_true]
  refine ⟨by omega, fun i hi => ?_⟩
  have hin : i < n := by have := List.mem_range.1 hi; omega
  obtain ⟨a, ha⟩ := start_at (D := D) (nums := nums) 0 h hin
  unfold rnd1
  rw [ha t]
  rcases start_round (D := D) (x := nums.getD i 0) (c := t + a) hD with h' | h'
  · rw [decide_eq_true h', Bool.true_or]
  · rw [decide_eq_true h', Bool.or_true]
theorem sys_vm {D : Int} {nums o : List Int} {n t : Nat} (hD : 0 < D) (h : o.Perm (upI n)) (hn : nums.length = n) (hn40 : n ≤ 40) (hv : ∀ x ∈ nums, -1000000 ≤ x ∧ x ≤ 1000000) (h0 : 1 ≤ t) (h1 : t ≤ 64) : VM (sysM D nums o n t).1 (sysM D nums o n t).2 = true := by
  obtain ⟨g1, g2, g3, g4, g5, g6⟩ := sysM_inv D nums o n t
  have hs0 := sysM_sum D nums o n t
  generalize sysM D nums o n t = M at *
  obtain ⟨W, L⟩ := M
  simp only at *
  have hb := mem_le_sum g4
  have hne : 1 ≤ L.length := by
    rcases Nat.eq_zero_or_pos L.length with e | e
    · rw [e] at g1
      rw [List.length_eq_zero_iff.1 g1] at hs0
      simp at hs0
      omega
    · exact e
  have hrow : ∀ r ∈ L, r.length = n ∧ ∀ x ∈ r, -1000000 ≤ x ∧ x ≤ 1000000 := by
    intro r hr
    obtain ⟨s, _, rfl⟩ := (g5 r).1 hr
    exact ⟨by rw [srow_length]; simp, start_bnd hD h hn hv _⟩
  have hd : (L.headD []).length = n := by
    cases L with
    | nil => simp at hne
    | cons r L => exact (hrow r List.mem_cons_self).1
  have hs : wsum 0 W = W.sum := by
    rw [wsum_eq 64 W 0 (fun x hx => by have := g4 x hx; have := hb.1 x hx; omega) (by omega) (by omega) (by omega)]; omega
  simp only [VM, mxW, Bool.and_eq_true, decide_eq_true_eq, List.all_eq_true, hs, hd]
  refine ⟨by omega, g1, hn40, fun w hw => ?_, fun i hi => ?_, by omega⟩
  · have := g4 w hw; have := hb.1 w hw; omega
  · have hi' : i < L.length := by simpa using hi
    have gi : L.getD i [] = L[i] := by simp [List.getD_eq_getElem?_getD, hi']
    have := hrow L[i] (List.getElem_mem hi')
    simp only [mxRow, Bool.and_eq_true, decide_eq_true_eq, List.all_eq_true, hd, gi]
    refine ⟨this.1, this.2, fun j hj => ?_⟩
    have hj' : j < i := by simpa using hj
    have gj : L.getD j [] = L[j] := by simp [List.getD_eq_getElem?_getD, show j < L.length by omega]
    simp only [gj, Bool.not_eq_true', decide_eq_false_iff_not]
    intro e
    exact absurd ((List.getElem_inj g3).1 e) (by omega)
theorem swap_perm (o : List Int) (a b : Nat) (ha : a < o.length) (hb : b < o.length) : ((o.set a o[b]).set b o[a]).Perm o := by
  rw [List.perm_iff_count]
  intro x
  have e : (o.set a o[b])[b]'(by simpa using hb) = o[b] := by
    rw [List.getElem_set]
    split
    · rfl
    · rfl
  rw [List.count_set (by simpa using hb), List.count_set ha, e]
  have h1 : o[a] = x → 1 ≤ o.count x := fun e => by rw [← e]; exact List.count_pos_iff.2 (List.getElem_mem ha)
  have h2 : o[b] = x → 1 ≤ o.count x := fun e => by rw [← e]; exact List.count_pos_iff.2 (List.getElem_mem hb)
  by_cases c1 : o[a] = x <;> by_cases c2 : o[b] = x
  · have := h1 c1; simp only [c1, c2, beq_self_eq_true, if_true]; omega
  · have := h1 c1
    simp only [c1, beq_self_eq_true, if_true, beq_eq_false_iff_ne.2 c2, Bool.false_eq_true, if_false]; omega
  · have := h2 c2
    simp only [c2, beq_self_eq_true, if_true, beq_eq_false_iff_ne.2 c1, Bool.false_eq_true, if_false]; omega
  · simp only [beq_eq_false_iff_ne.2 c1, beq_eq_false_iff_ne.2 c2, Bool.false_eq_true, if_false]; omega
/-- Which numbers below n have come. -/
def SEEN (S : List Int) (n : Nat) : List Bool := (List.range n).map fun j : Nat => decide ((j : Int) ∈ S)
theorem seen_nil (n : Nat) : List.replicate n false = SEEN [] n := by
  unfold SEEN
  apply List.ext_getElem
  · simp
  · intro i h1 h2; simp
theorem seen_length (S : List Int) (n : Nat) : (SEEN S n).length = n := by simp [SEEN]
theorem seen_get {S : List Int} {n : Nat} {x : Int} (h0 : 0 ≤ x) (h1 : x < n) : rdOf false (SEEN S n) x = decide (x ∈ S) := by
  unfold rdOf SEEN
  obtain ⟨m, rfl⟩ := Int.eq_ofNat_of_zero_le h0
  rw [show ((m : Int)).toNat = m from rfl]
  simp [List.getD_eq_getElem?_getD, show m < n by omega]
theorem seen_set {S : List Int} {n : Nat} {x : Int} (h0 : 0 ≤ x) : (SEEN S n).set x.toNat true = SEEN (S ++ [x]) n := by
  obtain ⟨m, rfl⟩ := Int.eq_ofNat_of_zero_le h0
  rw [show ((m : Int)).toNat = m from rfl]
  unfold SEEN
  apply List.ext_getElem
  · simp
  · intro i h1 h2
    have hi : i < n := by simpa using h2
    rw [List.getElem_set]
    simp only [List.getElem_map, List.getElem_range, List.mem_append, List.mem_singleton]
    by_cases c : m = i
    · subst c; simp
    · have : ¬ ((i : Int) = (m : Int)) := by omega
      simp [c, this]
/-- An order: each number below n once. -/
def ORD (o : List Int) (n : Nat) : Prop := o.length = n ∧ (∀ x ∈ o, 0 ≤ x ∧ x < (n : Int)) ∧ o.Nodup
theorem rset_pair : ∀ {s : List Int} {hi : Int}, RSET s hi = true → s.Pairwise (· < ·) := by
  intro s hi h
  unfold RSET at h
  rw [List.all_eq_true] at h
  have key : ∀ d i, i + d < s.length → 0 < d → s.getD i 0 < s.getD (i + d) 0 := by
    intro d
    induction d with
    | zero => intro i _ h0; omega
    | succ d ih =>
      intro i hi' _
      have h1 := h (i + d + 1) (List.mem_range.2 (by omega))
      rw [Bool.and_eq_true] at h1
      have h2 := of_decide_eq_true h1.2
      have h3 : s.getD (i + d) 0 < s.getD (i + d + 1) 0 := by
        rcases h2 with h2 | h2
        · omega
        · simpa using h2
      by_cases c : d = 0
      · subst c; exact h3
      · exact Int.lt_trans (ih i (by omega) (by omega)) h3
  rw [List.pairwise_iff_getElem]
  intro i j hi' hj hij
  have := key (j - i) i (by omega) (by omega)
  rw [show i + (j - i) = j by omega] at this
  simpa [List.getD_eq_getElem?_getD, hi', hj] using this
theorem pair_rset {s : List Int} {hi : Int} (hp : s.Pairwise (· < ·)) (hr : ∀ x ∈ s, 0 ≤ x ∧ x ≤ hi) : RSET s hi = true := by
  unfold RSET
  rw [List.all_eq_true]
  intro i h
  have hi' : i < s.length := by simpa using h
  rw [Bool.and_eq_true]
  refine ⟨decide_eq_true (hr _ (getD_mem hi')), decide_eq_true ?_⟩
  by_cases c : i = 0
  · exact .inl c
  · right
    have := (List.pairwise_iff_getElem.1 hp) (i - 1) i (by omega) hi' (by omega)
    simpa [List.getD_eq_getElem?_getD, hi', show i - 1 < s.length by omega] using this
theorem ord_iff (o : List Int) (n : Nat) (hl : o.length = n) : RSET (o.mergeSort (fun x y => decide (x ≤ y))) ((o.length : Int) - 1) = true ↔ ORD o n := by
  have hp := List.mergeSort_perm o (fun x y => decide (x ≤ y))
  constructor
  · intro h
    refine ⟨hl, fun x hx => ?_, ?_⟩
    · have := rs_mem h x (hp.mem_iff.2 hx); omega
    · exact hp.nodup_iff.1 ((rset_pair h).imp (fun h' => by omega))
  · rintro ⟨_, h1, h2⟩
    have h3 : (o.mergeSort (fun x y => decide (x ≤ y))).Pairwise (fun x y => x ≤ y) := by
      have := List.pairwise_mergeSort (le := fun x y : Int => decide (x ≤ y)) (fun a b c => by simp only [decide_eq_true_eq]; omega) (fun a b => by simp only [Bool.or_eq_true, decide_eq_true_eq]; omega) o
      exact this.imp (fun h => by simpa using h)
    have h4 : (o.mergeSort (fun x y => decide (x ≤ y))).Nodup := hp.nodup_iff.2 h2
    refine pair_rset (h3.imp₂ (fun a b h5 h6 => ?_) h4) (fun x hx => ?_)
    · have : a ≠ b := h6
      omega
    · have := h1 x (hp.mem_iff.1 hx); omega
end Go.Proofs.Ytlhpejabdmejbaa.Base
