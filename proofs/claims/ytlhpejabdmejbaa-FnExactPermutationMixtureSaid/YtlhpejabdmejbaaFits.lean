/- Plain lemmas: the first permutation that fits rows, what is taken away along it, and the mixture so found. No condition. -/
import Derived.Test.YtlhpejabdmejbaaPerm
import Derived.Test.YtlhpejabdmejbaaSys
import Derived.Test.YtlhpejabdmejbaaDbl
namespace Go.Proofs.Ytlhpejabdmejbaa.Base
open Go.RowKit Go.Proofs.YtlhpejabdmejbaaW.PrintWords Go.Proofs.YtlhpejabdmejbaaW.PrintLast Go.Proofs.YtlhpejabdmejbaaW.PrintMore
set_option linter.unusedVariables false
set_option linter.unusedSimpArgs false
theorem sumN_range : ∀ (n : Nat) (f : Nat → Int), ((List.range n).map f).sum = sumN n f
  | 0, _ => rfl
  | n + 1, f => by
    rw [List.range_succ, List.map_append, List.sum_append, sumN_range n f]
    simp [sumN]
theorem sum_sumN (l : List Int) : l.sum = sumN l.length (fun c => l.getD c 0) := by
  rw [← getD_sum, sumN_range]
theorem getD_setX {α : Type} (xs : List α) (i j : Nat) (x d : α) (h : i < xs.length) : (xs.set i x).getD j d = if j = i then x else xs.getD j d := by
  by_cases c : j = i
  · subst c; simp [List.getD_eq_getElem?_getD, h]
  · simp only [if_neg c, List.getD_eq_getElem?_getD, List.getElem?_set_ne (Ne.symm c)]
def en (L : List (List Int)) (i c : Nat) : Int := (L.getD i []).getD c 0
def SQ (n : Nat) (L : List (List Int)) : Prop := L.length = n ∧ ∀ i, i < n → (L.getD i []).length = n
def addP (p : List Int) (w : Int) (L : List (List Int)) : Nat → List (List Int)
  | 0 => L
  | i + 1 => (addP p w L i).set i (((addP p w L i).getD i []).set (p.getD i 0).toNat (en (addP p w L i) i (p.getD i 0).toNat + w))
theorem addP_sq {n : Nat} {p : List Int} {w : Int} {L : List (List Int)} (h : SQ n L) : ∀ k, k ≤ n → SQ n (addP p w L k)
  | 0, _ => h
  | k + 1, hk => by
    have ih := addP_sq (p := p) (w := w) h k (by omega)
    refine ⟨by rw [addP, List.length_set]; exact ih.1, fun i hi => ?_⟩
    rw [addP, getD_setX _ _ _ _ _ (by rw [ih.1]; omega)]
    split
    · rename_i c
      rw [List.length_set]
      exact ih.2 k (by omega)
    · exact ih.2 i hi
theorem addP_en {n : Nat} {p : List Int} {w : Int} {L : List (List Int)} (h : SQ n L) (hp : ∀ i, i < n → (p.getD i 0).toNat < n) : ∀ k, k ≤ n → ∀ i c, i < n → c < n → en (addP p w L k) i c = en L i c + (if i < k then w * dlt (p.getD i 0).toNat c else 0)
  | 0, _, i, c, _, _ => by simp [addP]
  | k + 1, hk, i, c, hi, hc => by
    have ih := addP_en h hp (w := w) k (by omega)
    have hs := addP_sq (p := p) (w := w) h k (by omega)
    unfold en
    rw [addP, getD_setX _ _ _ _ _ (by rw [hs.1]; omega)]
    by_cases e : i = k
    · subst e
      rw [if_pos rfl, getD_setX _ _ _ _ _ (by rw [hs.2 i hi]; exact hp i hi), if_pos (show i < i + 1 by omega)]
      have h1 := ih i c hi hc
      rw [if_neg (Nat.lt_irrefl _)] at h1
      by_cases e2 : c = (p.getD i 0).toNat
      · subst e2
        rw [if_pos rfl, dlt_eq rfl, h1]
        unfold en; omega
      · rw [if_neg e2, dlt_ne (Ne.symm e2), Int.mul_zero]
        exact h1
    · rw [if_neg e]
      have h1 := ih i c hi hc
      unfold en at h1
      rw [h1]
      by_cases e2 : i < k
      · rw [if_pos e2, if_pos (by omega)]
      · rw [if_neg e2, if_neg (by omega)]
def FIT (L : List (List Int)) : Nat → List Int → Option (List Int)
  | 0, pre => some pre
  | d + 1, pre => (List.range (L.getD pre.length []).length).findSome? fun c => if (L.getD pre.length []).getD c 0 = 0 ∨ (c : Int) ∈ pre then none else FIT L d (pre ++ [(c : Int)])
def GOOD (L : List (List Int)) (n : Nat) (l : List Int) : Prop := l.length ≤ n ∧ l.Nodup ∧ ∀ i, i < l.length → 0 ≤ l.getD i 0 ∧ l.getD i 0 < n ∧ en L i (l.getD i 0).toNat ≠ 0
theorem good_nil (L : List (List Int)) (n : Nat) : GOOD L n [] := ⟨Nat.zero_le _, List.nodup_nil, fun i hi => absurd hi (Nat.not_lt_zero _)⟩
theorem nodup_push {α : Type} {l : List α} {x : α} (h : l.Nodup) (hx : x ∉ l) : (l ++ [x]).Nodup := by
  rw [List.nodup_append]
  refine ⟨h, by simp, fun a ha b hb e => ?_⟩
  rw [List.mem_singleton] at hb
  subst hb; subst e
  exact hx ha
theorem getD_push_lt {α : Type} (l : List α) (x d : α) {i : Nat} (h : i < l.length) : (l ++ [x]).getD i d = l.getD i d := by
  simp [List.getD_eq_getElem?_getD, List.getElem?_append_left h]
theorem getD_push_at {α : Type} (l : List α) (x d : α) : (l ++ [x]).getD l.length d = x := by
  simp [List.getD_eq_getElem?_getD]
theorem good_push {L : List (List Int)} {n : Nat} {l : List Int} {c : Nat} (h : GOOD L n l) (hl : l.length < n) (hc : c < n) (hz : en L l.length c ≠ 0) (hm : (c : Int) ∉ l) : GOOD L n (l ++ [(c : Int)]) := by
  refine ⟨by simp; omega, nodup_push h.2.1 hm, fun i hi => ?_⟩
  rw [List.length_append, List.length_singleton] at hi
  by_cases e : i = l.length
  · subst e
    rw [getD_push_at]
    exact ⟨by omega, by omega, hz⟩
  · rw [getD_push_lt _ _ _ (by omega)]
    exact h.2.2 i (by omega)
theorem fit_some {n : Nat} {L : List (List Int)} (hs : SQ n L) : ∀ d pre l, pre.length + d = n → GOOD L n pre → FIT L d pre = some l → GOOD L n l ∧ l.length = n
  | 0, pre, l, hd, hg, h => by
    rw [FIT] at h
    injection h with h
    subst h
    exact ⟨hg, by omega⟩
  | d + 1, pre, l, hd, hg, h => by
    rw [FIT] at h
    obtain ⟨c, hc, hf⟩ := List.exists_of_findSome?_eq_some h
    rw [List.mem_range, hs.2 _ (by omega)] at hc
    split at hf
    · exact absurd hf (by simp)
    · rename_i hn
      exact fit_some hs d _ l (by simp; omega) (good_push hg (by omega) hc (fun e => hn (.inl e)) (fun e => hn (.inr e))) hf
theorem fit_none {n : Nat} {L : List (List Int)} (hs : SQ n L) : ∀ d pre, pre.length + d = n → FIT L d pre = none → ∀ e : List Int, e.length = d → ¬ GOOD L n (pre ++ e)
  | 0, pre, hd, h, e, he => by rw [FIT] at h; exact absurd h (by simp)
  | d + 1, pre, hd, h, [], he => by simp at he
  | d + 1, pre, hd, h, x :: e, he => by
    intro hg
    have hx := hg.2.2 pre.length (by simp)
    rw [show (pre ++ x :: e).getD pre.length 0 = x by simp [List.getD_eq_getElem?_getD]] at hx
    have hxc : ((x.toNat : Nat) : Int) = x := by omega
    have hnd := hg.2.1
    rw [List.nodup_append] at hnd
    rw [FIT, List.findSome?_eq_none_iff] at h
    have h1 := h x.toNat (by rw [List.mem_range, hs.2 _ (by omega)]; omega)
    rw [if_neg (by
      rintro (h2 | h2)
      · exact hx.2.2 h2
      · rw [hxc] at h2
        exact hnd.2.2 x h2 x (by simp) rfl), hxc] at h1
    refine fit_none hs d (pre ++ [x]) (by simp; omega) h1 e (by simpa using he) ?_
    rw [List.append_assoc]
    exact hg
def EVEN (n : Nat) (L : List (List Int)) (s : Int) : Prop := SQ n L ∧ (∀ i c, i < n → c < n → 0 ≤ en L i c) ∧ (∀ i, i < n → sumN n (en L i) = s) ∧ ∀ c, c < n → sumN n (fun i => en L i c) = s
def pf (l : List Int) (i : Nat) : Nat := (l.getD i 0).toNat
theorem good_ord {L : List (List Int)} {n : Nat} {l : List Int} (h : GOOD L n l) (hl : l.length = n) : ORD l n := by
  refine ⟨hl, fun x hx => ?_, h.2.1⟩
  obtain ⟨i, hi, rfl⟩ := List.getElem_of_mem hx
  have := h.2.2 i hi
  rw [show l.getD i 0 = l[i] by simp [List.getD_eq_getElem?_getD, hi]] at this
  exact ⟨this.1, this.2.1⟩
theorem ord_get {n : Nat} {l : List Int} (h : ORD l n) {i : Nat} (hi : i < n) : 0 ≤ l.getD i 0 ∧ l.getD i 0 < n ∧ ((pf l i : Nat) : Int) = l.getD i 0 ∧ pf l i < n := by
  have h1 := h.2.1 (l.getD i 0) (by rw [show l.getD i 0 = l[i]'(by rw [h.1]; exact hi) by simp [List.getD_eq_getElem?_getD, h.1, hi]]; exact List.getElem_mem _)
  unfold pf
  exact ⟨h1.1, h1.2, by omega, by omega⟩
theorem ord_perm {n : Nat} {l : List Int} (h : ORD l n) : PERM n (pf l) := by
  refine ⟨fun i hi => (ord_get h hi).2.2.2, fun i j hi hj e => ?_⟩
  have a := ord_get h hi
  have b := ord_get h hj
  have e2 : l.getD i 0 = l.getD j 0 := by rw [← a.2.2.1, ← b.2.2.1, e]
  have hi' : i < l.length := by rw [h.1]; exact hi
  have hj' : j < l.length := by rw [h.1]; exact hj
  rw [show l.getD i 0 = l[i] by simp [List.getD_eq_getElem?_getD, hi'], show l.getD j 0 = l[j] by simp [List.getD_eq_getElem?_getD, hj']] at e2
  have hn : l.Pairwise (fun a b => a ≠ b) := h.2.2
  rw [List.pairwise_iff_getElem] at hn
  rcases Nat.lt_trichotomy i j with h1 | h1 | h1
  · exact absurd e2 (hn i j hi' hj' h1)
  · exact h1
  · exact absurd e2.symm (hn j i hj' hi' h1)
theorem fit_ex {n : Nat} {L : List (List Int)} {s : Int} (h : EVEN n L s) (hs : 0 < s) : ∃ l, FIT L n [] = some l ∧ GOOD L n l ∧ l.length = n := by
  obtain ⟨f, hf, hp⟩ := birkhoff (M := en L) hs h.2.1 h.2.2.1 h.2.2.2
  cases e : FIT L n [] with
  | some l => exact ⟨l, rfl, fit_some h.1 n [] l (by simp) (good_nil L n) e⟩
  | none =>
    exfalso
    have hg : ∀ i, i < n → ((List.range n).map fun i => ((f i : Nat) : Int)).getD i 0 = f i := fun i hi => by simp [List.getD_eq_getElem?_getD, hi]
    refine fit_none h.1 n [] (by simp) e ((List.range n).map fun i => ((f i : Nat) : Int)) (by simp) ⟨by simp, ?_, fun i hi => ?_⟩
    · rw [List.nil_append]
      unfold List.Nodup
      rw [List.pairwise_map]
      have hr : (List.range n).Pairwise (fun a b => a ≠ b) := List.nodup_range
      refine List.Pairwise.imp_of_mem (fun {a b} ha hb hne e => hne (hf.2 a b (List.mem_range.1 ha) (List.mem_range.1 hb) (by omega))) hr
    · rw [List.nil_append] at hi ⊢
      have hi' : i < n := by simpa using hi
      rw [hg i hi']
      have := hf.1 i hi'
      have := hp i hi'
      exact ⟨by omega, by omega, by rw [show ((f i : Nat) : Int).toNat = f i by omega]; omega⟩
theorem fit_zero {n : Nat} {L : List (List Int)} (h : EVEN n L 0) (hn : 1 ≤ n) : FIT L n [] = none := by
  cases e : FIT L n [] with
  | none => rfl
  | some l =>
    exfalso
    have hg := fit_some h.1 n [] l (by simp) (good_nil L n) e
    have h1 := hg.1.2.2 0 (by omega)
    exact h1.2.2 (sumN_zeros (fun c hc => h.2.1 0 c (by omega) hc) (by rw [h.2.2.1 0 (by omega)]; exact Int.le_refl _) _ (by omega))
theorem even_add {n : Nat} {L : List (List Int)} {s w : Int} {l : List Int} (h : EVEN n L s) (hl : ORD l n) (h0 : ∀ i, i < n → 0 ≤ en L i (pf l i) + w) : EVEN n (addP l w L n) (s + w) := by
  have hp := ord_perm hl
  have he : ∀ i c, i < n → c < n → en (addP l w L n) i c = en L i c + w * dlt (pf l i) c := fun i c hi hc => by
    rw [addP_en h.1 (fun i hi => (ord_get hl hi).2.2.2) n (Nat.le_refl _) i c hi hc, if_pos hi]
    rfl
  refine ⟨addP_sq h.1 n (Nat.le_refl _), fun i c hi hc => ?_, fun i hi => ?_, fun c hc => ?_⟩
  · rw [he i c hi hc]
    by_cases e : pf l i = c
    · subst e
      have := h0 i hi
      rw [dlt_eq rfl]; omega
    · have := h.2.1 i c hi hc
      rw [dlt_ne e]; omega
  · rw [sumN_congr (g := fun c => en L i c + w * dlt (pf l i) c) (fun c hc => he i c hi hc), sumN_add, sumN_mul, dlt_row hp hi, Int.mul_one, h.2.2.1 i hi]
  · rw [sumN_congr (g := fun i => en L i c + w * dlt (pf l i) c) (fun i hi => he i c hi hc), sumN_add, sumN_mul, dlt_col hp hc, Int.mul_one, h.2.2.2 c hc]
def lst (L : List (List Int)) (l : List Int) : Nat → Int
  | 0 => en L 0 (pf l 0)
  | i + 1 => mn (lst L l i) (en L i (pf l i))
theorem lst_le (L : List (List Int)) (l : List Int) : ∀ k i, i < k → lst L l k ≤ en L i (pf l i)
  | 0, i, h => absurd h (Nat.not_lt_zero _)
  | k + 1, i, h => by
    rw [lst]
    unfold mn
    by_cases e : i = k
    · subst e; split <;> omega
    · have := lst_le L l k i (by omega)
      split <;> omega
theorem lst_at (L : List (List Int)) (l : List Int) {n : Nat} (hn : 1 ≤ n) : ∀ k, k ≤ n → ∃ i, i < n ∧ lst L l k = en L i (pf l i)
  | 0, _ => ⟨0, by omega, rfl⟩
  | k + 1, hk => by
    obtain ⟨i, hi, e⟩ := lst_at L l hn k (by omega)
    rw [lst]
    unfold mn
    split
    · exact ⟨k, by omega, rfl⟩
    · exact ⟨i, hi, e⟩
def PMF (n : Nat) : Nat → List (List Int) → List Int → List (List Int) → List Int × List (List Int)
  | 0, _, W, ls => (W, ls)
  | k + 1, L, W, ls => match FIT L n [] with
    | none => (W, ls)
    | some l => PMF n k (addP l (-(lst L l n)) L n) (W ++ [lst L l n]) (ls ++ [l])
def pwat (W : List Int) (ls : List (List Int)) (i c : Nat) : Int := wphi (fun l => dlt (pf l i) c) W ls ls.length
structure PI (n : Nat) (L0 : List (List Int)) (S : Int) (L : List (List Int)) (W : List Int) (ls : List (List Int)) (s : Int) : Prop where
  even : EVEN n L s
  len : W.length = ls.length
  ord : ∀ l ∈ ls, ORD l n
  pos : ∀ w ∈ W, 1 ≤ w
  sum : W.sum + s = S
  all : ∀ i c, i < n → c < n → en L i c + pwat W ls i c = en L0 i c
  own : ∀ q, q < ls.length → ∃ i, i < n ∧ en L i (pf (ls.getD q []) i) = 0 ∧ ∀ q', q < q' → q' < ls.length → pf (ls.getD q' []) i ≠ pf (ls.getD q []) i
theorem pi_start {n : Nat} {L : List (List Int)} {S : Int} (h : EVEN n L S) : PI n L S L [] [] S where
  even := h
  len := rfl
  ord := fun l hl => absurd hl (by simp)
  pos := fun l hl => absurd hl (by simp)
  sum := by simp
  all := fun i c _ _ => by simp [pwat, wphi]
  own := fun q hq => absurd hq (by simp)
theorem pi_fit {n : Nat} {L0 L : List (List Int)} {S s : Int} {W : List Int} {ls : List (List Int)} (h : PI n L0 S L W ls s) {l : List Int} (hl : ORD l n) (hg : ∀ i, i < n → en L i (pf l i) ≠ 0) : ∀ q, q < ls.length → ls.getD q [] ≠ l := by
  intro q hq e
  obtain ⟨i, hi, h0, _⟩ := h.own q hq
  rw [e] at h0
  exact hg i hi h0
theorem pi_step {n : Nat} {L0 L : List (List Int)} {S s : Int} {W : List Int} {ls : List (List Int)} (h : PI n L0 S L W ls s) (hn : 1 ≤ n) {l : List Int} (hl : ORD l n) (hg : ∀ i, i < n → en L i (pf l i) ≠ 0) :
    PI n L0 S (addP l (-(lst L l n)) L n) (W ++ [lst L l n]) (ls ++ [l]) (s - lst L l n) ∧ 1 ≤ lst L l n ∧ lst L l n ≤ s := by
  have hw : 1 ≤ lst L l n := by
    obtain ⟨i, hi, e⟩ := lst_at L l hn n (Nat.le_refl _)
    have h1 := h.even.2.1 i (pf l i) hi (ord_get hl hi).2.2.2
    have h2 := hg i hi
    omega
  have he : ∀ i c, i < n → c < n → en (addP l (-(lst L l n)) L n) i c = en L i c + (-(lst L l n)) * dlt (pf l i) c := fun i c hi hc => by
    rw [addP_en h.even.1 (fun i hi => (ord_get hl hi).2.2.2) n (Nat.le_refl _) i c hi hc, if_pos hi]
    rfl
  have hev : EVEN n (addP l (-(lst L l n)) L n) (s - lst L l n) := by
    have := even_add (w := -(lst L l n)) h.even hl (fun i hi => by have := lst_le L l n i hi; omega)
    rwa [← Int.sub_eq_add_neg] at this
  refine ⟨{ even := hev, len := by simp [h.len], ord := ?_, pos := ?_, sum := ?_, all := ?_, own := ?_ }, hw, ?_⟩
  · intro x hx
    rw [List.mem_append, List.mem_singleton] at hx
    rcases hx with hx | rfl
    · exact h.ord x hx
    · exact hl
  · intro x hx
    rw [List.mem_append, List.mem_singleton] at hx
    rcases hx with hx | rfl
    · exact h.pos x hx
    · exact hw
  · have := h.sum
    rw [List.sum_append]
    simp
    omega
  · intro i c hi hc
    rw [he i c hi hc, ← h.all i c hi hc]
    unfold pwat
    rw [List.length_append, List.length_singleton, wphi_push _ _ _ _ _ h.len, Int.neg_mul]
    omega
  · intro q hq
    rw [List.length_append, List.length_singleton] at hq
    by_cases e : q = ls.length
    · subst e
      obtain ⟨i, hi, e2⟩ := lst_at L l hn n (Nat.le_refl _)
      refine ⟨i, hi, ?_, fun q' h1 h2 => ?_⟩
      · rw [getD_push_at, he i _ hi (ord_get hl hi).2.2.2, dlt_eq rfl, ← e2]
        omega
      · rw [List.length_append, List.length_singleton] at h2
        omega
    · obtain ⟨i, hi, h0, h1⟩ := h.own q (by omega)
      have hne : pf l i ≠ pf (ls.getD q []) i := fun e3 => hg i hi (by rw [e3]; exact h0)
      have hor := h.ord (ls.getD q []) (getD_mem (by omega))
      refine ⟨i, hi, ?_, fun q' h2 h3 => ?_⟩
      · rw [getD_push_lt _ _ _ (by omega), he i _ hi (ord_get hor hi).2.2.2, dlt_ne hne, h0]
        omega
      · rw [List.length_append, List.length_singleton] at h3
        rw [getD_push_lt _ _ _ (show q < ls.length by omega)]
        by_cases e4 : q' = ls.length
        · subst e4
          rw [getD_push_at]
          exact hne
        · rw [getD_push_lt _ _ _ (by omega)]
          exact h1 q' h2 (by omega)
  · have h1 := hev.2.2.1 0 (by omega)
    have h2 := sumN_nonneg (fun c hc => hev.2.1 0 c (by omega) hc)
    omega
theorem pi_count {n : Nat} {L0 L : List (List Int)} {S s : Int} {W : List Int} {ls : List (List Int)} (h : PI n L0 S L W ls s) (hn : 1 ≤ n) : ls.length ≤ (n - 1) * (n - 1) + 1 := by
  refine perm_count hn (fun q => pf (ls.getD q [])) (fun q hq => ord_perm (h.ord _ (getD_mem hq))) (fun q hq => ?_)
  obtain ⟨i, hi, _, h1⟩ := h.own q hq
  exact ⟨i, hi, h1⟩
theorem pmf_end {n : Nat} {L0 : List (List Int)} {S : Int} (hn : 1 ≤ n) : ∀ (k : Nat) (L : List (List Int)) (W : List Int) (ls : List (List Int)) (s : Int), PI n L0 S L W ls s → s ≤ k → ∃ L', PI n L0 S L' (PMF n k L W ls).1 (PMF n k L W ls).2 0
  | 0, L, W, ls, s, h, hk => by
    have h1 := h.even.2.2.1 0 (by omega)
    have h2 := sumN_nonneg (fun c hc => h.even.2.1 0 c (by omega) hc)
    obtain rfl : s = 0 := by omega
    exact ⟨L, h⟩
  | k + 1, L, W, ls, s, h, hk => by
    have h1 := h.even.2.2.1 0 (by omega)
    have h2 := sumN_nonneg (fun c hc => h.even.2.1 0 c (by omega) hc)
    by_cases c : s = 0
    · subst c
      rw [PMF, fit_zero h.even hn]
      exact ⟨L, h⟩
    · obtain ⟨l, hf, hg, hl⟩ := fit_ex h.even (by omega)
      rw [PMF, hf]
      obtain ⟨a, b, _⟩ := pi_step h hn (good_ord hg hl) (fun i hi => (hg.2.2 i (by omega)).2.2)
      exact pmf_end hn k _ _ _ _ a (by omega)
theorem even_bnd {n : Nat} {L : List (List Int)} {s : Int} (h : EVEN n L s) {i c : Nat} (hi : i < n) (hc : c < n) : 0 ≤ en L i c ∧ en L i c ≤ s := by
  have h1 := h.2.1 i c hi hc
  have h2 := sumN_lt (n := n) (f := fun _ => 0) (g := en L i) (fun c hc => h.2.1 i c hi hc) hc (en L i c) (by omega)
  rw [sumN_zero, h.2.2.1 i hi] at h2
  omega
theorem even_sum {n : Nat} {L : List (List Int)} {s : Int} (h : EVEN n L s) (hs : s ≤ 1000000) (hn : n ≤ 1000) {i : Nat} (hi : i < n) : wsum 0 (L.getD i []) = s := by
  have hl := h.1.2 i hi
  rw [wsum_eq 1000000 (L.getD i []) 0 (fun x hx => by
    obtain ⟨c, hc, rfl⟩ := mem_getD hx
    have := even_bnd h hi (show c < n by omega)
    unfold en at this
    omega) (by omega) (by omega) (by omega), sum_sumN, hl, Int.zero_add]
  exact h.2.2.1 i hi
theorem colOf_get {L : List (List Int)} {i c : Nat} (h : i < L.length) : (colOf L c).getD i 0 = en L i c := by
  unfold colOf en
  simp [List.getD_eq_getElem?_getD, h]
theorem even_of_db {L : List (List Int)} (h : DB L = true) : ∃ s, (1 ≤ L.length ∧ L.length ≤ 6) ∧ EVEN L.length L s ∧ 0 < s ∧ s ≤ 6000 := by
  unfold DB at h
  simp only [Bool.and_eq_true, decide_eq_true_eq, List.all_eq_true, List.mem_range, drow] at h
  obtain ⟨h1, h2, h3, h4⟩ := h
  have hsq : SQ L.length L := ⟨rfl, fun i hi => (h2 i hi).1⟩
  have hb : ∀ i c, i < L.length → c < L.length → 0 ≤ en L i c ∧ en L i c ≤ 1000 := fun i c hi hc => (h2 i hi).2 _ (getD_mem (by rw [(h2 i hi).1]; exact hc))
  have hR : ∀ i, i < L.length → dR L i = sumN L.length (en L i) := fun i hi => by
    unfold dR
    rw [wsum_eq 1000 (L.getD i []) 0 (fun x hx => by have := (h2 i hi).2 x hx; omega) (by omega) (by have := (h2 i hi).1; omega) (by have := (h2 i hi).1; omega), sum_sumN, (h2 i hi).1, Int.zero_add]
    rfl
  have hC : ∀ c, c < L.length → dC L c = sumN L.length (fun i => en L i c) := fun c hc => by
    have hl : (colOf L c).length = L.length := by simp [colOf]
    unfold dC
    rw [wsum_eq 1000 (colOf L c) 0 (fun x hx => by
      obtain ⟨i, hi, rfl⟩ := mem_getD hx
      rw [colOf_get (by omega)]
      have := hb i c (by omega) hc
      omega) (by omega) (by omega) (by omega), sum_sumN, hl, Int.zero_add]
    exact sumN_congr fun i hi => colOf_get hi
  have hle : sumN L.length (en L 0) ≤ 6000 := by
    have h5 := sumN_le (n := L.length) (f := en L 0) (g := fun _ => 1000) (fun c hc => (hb 0 c (by omega) hc).2)
    have h6 := sumN_mul 1000 L.length (fun _ => 1)
    have h7 : ∀ n : Nat, sumN n (fun _ => 1) = n := fun n => by
      induction n with
      | zero => rfl
      | succ n ih => simp only [sumN, ih]; omega
    rw [h7] at h6
    simp only [Int.mul_one] at h6
    omega
  have h0 := (h3 0 (by omega)).1
  rw [hR 0 (by omega)] at h0
  refine ⟨dC L 0, by omega, ⟨hsq, fun i c hi hc => (hb i c hi hc).1, fun i hi => by rw [← hR i hi]; exact (h3 i hi).1, fun c hc => by rw [← hC c hc]; exact (h3 c hc).2⟩, h4, by omega⟩
end Go.Proofs.Ytlhpejabdmejbaa.Base
