/- Plain definitions and lemmas: words of letters a and b, their heights. No condition. -/
import Derived.Test.YtkmghekffehimaaDoorLists
import Derived.Shelf.Strings.SlTrimAscii
namespace Go.Proofs.YtkmghekffehimaaDoor.Base
open Go.RowKit Go.Proofs.YtkmghekffehimaaDoorW.PrintWords Go.Proofs.YtkmghekffehimaaDoorW.PrintLast Go.Proofs.YtkmghekffehimaaDoorW.PrintMore
set_option linter.unusedVariables false
set_option linter.unusedSimpArgs false
-- kit:
theorem toListD (s : ByteArray) : s.toList = s.data.toList := Go.Lib.toList_data s
theorem trim_def (l : List UInt8) : Go.Lib.trimS l [97, 98] = ((l.reverse.dropWhile (([97, 98] : List UInt8).contains ·)).reverse).dropWhile (([97, 98] : List UInt8).contains ·) := rfl
-- :kit
theorem dropWhile_nil {α : Type} (p : α → Bool) : ∀ (l : List α), l.dropWhile p = [] ↔ ∀ x ∈ l, p x = true
  | [] => by simp
  | x :: l => by
    rw [List.dropWhile_cons]
    by_cases h : p x = true
    · rw [if_pos h, dropWhile_nil p l]
      simp [h]
    · rw [if_neg h]
      simp [h]
theorem trim_nil (l : List UInt8) : Go.Lib.trimS l [97, 98] = [] ↔ ∀ x ∈ l, x = 97 ∨ x = 98 := by
  have hc : ∀ x : UInt8, (([97, 98] : List UInt8).contains x = true) ↔ (x = 97 ∨ x = 98) := fun x => by
    rw [List.contains_iff_mem, List.mem_cons, List.mem_singleton]
  rw [trim_def, dropWhile_nil]
  constructor
  · intro h x hx
    by_cases c : ∃ y ∈ l, ¬ (([97, 98] : List UInt8).contains y = true)
    · exfalso
      -- what is left of the right cut begins (from the right) with a sign that is none of them
      have hne : (l.reverse.dropWhile (([97, 98] : List UInt8).contains ·)) ≠ [] := by
        intro e
        obtain ⟨y, hy, hy2⟩ := c
        exact hy2 ((dropWhile_nil _ _).1 e y (List.mem_reverse.2 hy))
      have hd : ∀ (m : List UInt8), m.dropWhile (([97, 98] : List UInt8).contains ·) ≠ [] → ∃ z ∈ m.dropWhile (([97, 98] : List UInt8).contains ·), ¬ (([97, 98] : List UInt8).contains z = true) := by
        intro m
        induction m with
        | nil => intro hm; simp at hm
        | cons y m ih =>
          intro hm
          rw [List.dropWhile_cons] at hm ⊢
          by_cases hy : ([97, 98] : List UInt8).contains y = true
          · rw [if_pos hy] at hm ⊢; exact ih hm
          · rw [if_neg hy] at hm ⊢; exact ⟨y, List.mem_cons_self, hy⟩
      obtain ⟨z, hz, hz2⟩ := hd _ hne
      exact hz2 (h z (List.mem_reverse.2 hz))
    · have : ([97, 98] : List UInt8).contains x = true := by
        by_cases hx2 : ([97, 98] : List UInt8).contains x = true
        · exact hx2
        · exact absurd ⟨x, hx, hx2⟩ c
      exact (hc x).1 this
  · intro h x hx
    exact (hc x).2 (h x (by
      have h1 : x ∈ l.reverse.dropWhile (([97, 98] : List UInt8).contains ·) := List.mem_reverse.1 hx
      exact List.mem_reverse.1 ((List.dropWhile_sublist _).subset h1)))
theorem data_nil (s : ByteArray) : (s.toList == ([] : List UInt8)) = ((s.size : Int) == 0) := by
  rw [toListD]
  have : s.data.toList.length = s.size := by simp
  cases h : s.data.toList with
  | nil =>
    rw [h] at this
    have h2 : (s.size : Int) = 0 := by simp only [List.length_nil] at this; omega
    rw [h2]; rfl
  | cons x l =>
    rw [h] at this
    simp only [List.length_cons] at this
    have h2 : ¬ (s.size : Int) = 0 := by omega
    rw [show ((x :: l) == ([] : List UInt8)) = false from rfl]
    exact (beq_eq_false_iff_ne.2 h2).symm
theorem bt_nat (s : ByteArray) {i : Nat} (h : i < s.size) : bt s (i : Int) = ((s.data.toList[i]'(by simpa using h)).toNat : Int) := by
  unfold bt
  rw [dif_pos (by simpa using h)]
  rfl
/-- All letters are a or b. -/
def LET (s : ByteArray) : Bool := (List.range s.size).all fun i => decide (bt s (i : Int) = 97 ∨ bt s (i : Int) = 98)
def WORD (s : ByteArray) : Bool := LET s && decide ((s.size : Int) ≤ 120)
theorem let_iff (s : ByteArray) : LET s = true ↔ ∀ x ∈ s.data.toList, x = 97 ∨ x = 98 := by
  have hb : ∀ x : UInt8, ((x.toNat : Int) = 97 ∨ (x.toNat : Int) = 98) ↔ (x = 97 ∨ x = 98) := by
    intro x
    constructor
    · rintro (h | h)
      · left; apply UInt8.toNat_inj.1; show x.toNat = 97; omega
      · right; apply UInt8.toNat_inj.1; show x.toNat = 98; omega
    · rintro (rfl | rfl)
      · left; rfl
      · right; rfl
  simp only [LET, List.all_eq_true, List.mem_range, decide_eq_true_eq]
  constructor
  · intro h x hx
    obtain ⟨i, hi, rfl⟩ := List.getElem_of_mem hx
    have hi' : i < s.size := by simpa using hi
    have := h i hi'
    rw [bt_nat s hi'] at this
    exact (hb _).1 this
  · intro h i hi
    rw [bt_nat s hi]
    exact (hb _).2 (h _ (List.getElem_mem _))
theorem word_facts {s : ByteArray} (h : WORD s = true) : s.size ≤ 120 ∧ ∀ i, i < s.size → bt s (i : Int) = 97 ∨ bt s (i : Int) = 98 := by
  simp only [WORD, LET, Bool.and_eq_true, List.all_eq_true, List.mem_range, decide_eq_true_eq] at h
  exact ⟨by omega, h.1⟩
/-- How many letters b stand among the first k. -/
def hgt (s : ByteArray) : Nat → Int
  | 0 => 0
  | k + 1 => hgt s k + (if bt s (k : Int) = 98 then 1 else 0)
theorem hgt_range (s : ByteArray) : ∀ k, 0 ≤ hgt s k ∧ hgt s k ≤ k
  | 0 => ⟨Int.le_refl _, Int.le_refl _⟩
  | k + 1 => by
    have := hgt_range s k
    unfold hgt
    split <;> omega
def HT (s : ByteArray) : List Int := (List.range (s.size + 1)).map (hgt s)
theorem ht_length (s : ByteArray) : (HT s).length = s.size + 1 := by simp [HT]
theorem ht_get (s : ByteArray) {i : Nat} (h : i ≤ s.size) : rd (HT s) (i : Int) = hgt s i := by
  unfold rd HT
  simp [List.getD_eq_getElem?_getD, show i < s.size + 1 by omega]
theorem ht_take_get (s : ByteArray) {i k : Nat} (h : i < k) : rd ((List.range k).map (hgt s)) (i : Int) = hgt s i := by
  unfold rd
  simp [List.getD_eq_getElem?_getD, h]
end Go.Proofs.YtkmghekffehimaaDoor.Base
