/- Plain lemmas: texts split at a letter, texts of numbers read. No condition. -/
import Derived.Test.YtknopokgbechlaaDoorDec
-- kit:
import Derived.Lib.Split
import Derived.Lib.CutLaws
import Derived.Lib.ParseIntBTie
import Derived.Lib.IndexBytes
import Derived.Lib.IndexLaws
import Derived.Lib.IndexMore
import Derived.Lib.CountLaws
-- :kit
namespace Go.Proofs.YtknopokgbechlaaDoor.Base
open Go.RowKit Go.Proofs.YtknopokgbechlaaDoorW.PrintWords Go.Proofs.YtknopokgbechlaaDoorW.PrintLast Go.Proofs.YtknopokgbechlaaDoorW.PrintMore
set_option linter.unusedVariables false
set_option linter.unusedSimpArgs false
/-- What stands between the letters c. -/
def SPL (c : UInt8) : List UInt8 → List (List UInt8)
  | [] => [[]]
  | x :: r => if x = c then [] :: SPL c r else ((x :: (SPL c r).headD []) :: (SPL c r).tail)
theorem spl_ne (c : UInt8) : ∀ l, SPL c l ≠ []
  | [] => by simp [SPL]
  | x :: r => by rw [SPL]; split <;> simp
theorem spl_none (c : UInt8) : ∀ l : List UInt8, (∀ x ∈ l, x ≠ c) → SPL c l = [l]
  | [], _ => rfl
  | x :: r, h => by
    rw [SPL, if_neg (h x List.mem_cons_self), spl_none c r (fun y hy => h y (List.mem_cons_of_mem _ hy))]
    rfl
theorem spl_hit (c : UInt8) : ∀ (a b : List UInt8), (∀ x ∈ a, x ≠ c) → SPL c (a ++ c :: b) = a :: SPL c b
  | [], b, _ => by rw [List.nil_append, SPL, if_pos rfl]
  | x :: a, b, h => by
    rw [List.cons_append, SPL, if_neg (h x List.mem_cons_self), spl_hit c a b (fun y hy => h y (List.mem_cons_of_mem _ hy))]
    rfl
/-- The first letter c: what stands ahead of it, what behind. -/
def CUT (c : UInt8) : List UInt8 → List UInt8 × List UInt8 × Bool
  | [] => ([], [], false)
  | x :: r => if x = c then ([], r, true) else (x :: (CUT c r).1, (CUT c r).2)
theorem cut_none (c : UInt8) : ∀ l : List UInt8, (∀ x ∈ l, x ≠ c) → CUT c l = (l, [], false)
  | [], _ => rfl
  | x :: r, h => by rw [CUT, if_neg (h x List.mem_cons_self), cut_none c r (fun y hy => h y (List.mem_cons_of_mem _ hy))]
theorem cut_hit (c : UInt8) : ∀ (a b : List UInt8), (∀ x ∈ a, x ≠ c) → CUT c (a ++ c :: b) = (a, b, true)
  | [], b, _ => by rw [List.nil_append, CUT, if_pos rfl]
  | x :: a, b, h => by rw [List.cons_append, CUT, if_neg (h x List.mem_cons_self), cut_hit c a b (fun y hy => h y (List.mem_cons_of_mem _ hy))]
/-- A letter is nowhere, or there is a first one. -/
theorem first_of (c : UInt8) : ∀ l : List UInt8, (∀ x ∈ l, x ≠ c) ∨ ∃ a b, l = a ++ c :: b ∧ ∀ x ∈ a, x ≠ c
  | [] => .inl (fun x hx => by cases hx)
  | x :: r => by
    by_cases e : x = c
    · subst e; exact .inr ⟨[], r, rfl, fun y hy => by cases hy⟩
    · rcases first_of c r with h | ⟨a, b, rfl, h⟩
      · exact .inl (fun y hy => by rcases List.mem_cons.1 hy with rfl | hy; exact e; exact h y hy)
      · exact .inr ⟨x :: a, b, rfl, fun y hy => by rcases List.mem_cons.1 hy with rfl | hy; exact e; exact h y hy⟩
-- kit:
theorem lib_index (a b : List UInt8) (c : UInt8) (h : ∀ x ∈ a, x ≠ c) : Go.Lib.index (a ++ c :: b) [c] = (a.length : Int) := by
  rw [Go.Lib.index_one]
  cases e : Go.Lib.indexByte (a ++ c :: b) c with
  | negSucc n =>
    have : Go.Lib.indexByte (a ++ c :: b) c = -1 ∨ 0 ≤ Go.Lib.indexByte (a ++ c :: b) c := by
      rw [← Go.Lib.index_one]
      rcases Go.Lib.index_spec (a ++ c :: b) [c] with h1 | ⟨i, h1, _⟩
      · exact .inl h1.1
      · exact .inr (by omega)
    rcases this with h1 | h1
    · exact absurd (by simp) (Go.Lib.indexByte_none h1 a.length)
    · omega
  | ofNat n =>
    obtain ⟨h1, h2⟩ := Go.Lib.indexByte_some (o := n) e
    rcases Nat.lt_trichotomy n a.length with h3 | h3 | h3
    · rw [List.getElem?_append_left h3] at h1
      exact absurd rfl (h c (List.mem_of_getElem? h1))
    · rw [h3]; rfl
    · exact absurd (by simp) (h2 a.length h3)
theorem lib_index_none (l : List UInt8) (c : UInt8) (h : ∀ x ∈ l, x ≠ c) : Go.Lib.index l [c] = -1 := by
  rcases Go.Lib.index_spec l [c] with h1 | ⟨i, h1, _⟩
  · exact h1.1
  · rw [Go.Lib.index_one] at h1
    have h2 := (Go.Lib.indexByte_some h1).1
    exact absurd rfl (h c (List.mem_of_getElem? h2))
theorem lib_splitK (c : UInt8) : ∀ (n : Nat) (l : List UInt8), l.length ≤ n → Go.Lib.splitK [c] 0 (Go.Lib.count l [c]) l = SPL c l := by
  intro n
  induction n with
  | zero =>
    intro l hl
    obtain rfl := List.length_eq_zero_iff.1 (Nat.le_zero.1 hl)
    rw [Go.Lib.count_miss (lib_index_none [] c (fun x hx => by cases hx))]
    rfl
  | succ n ih =>
    intro l hl
    rcases first_of c l with h | ⟨a, b, rfl, h⟩
    · rw [Go.Lib.count_miss (lib_index_none l c h), spl_none c l h]
      rfl
    · have hi := lib_index a b c h
      have hd : (a ++ c :: b).drop (a.length + [c].length) = b := by
        rw [← List.drop_drop, List.drop_left]; rfl
      rw [Go.Lib.count_hit (by simp) hi, hd, Nat.add_comm, Go.Lib.splitK, hi, spl_hit c a b h]
      rw [if_neg (by simp)]
      rw [show ((a.length : Int)).toNat = a.length by omega, hd, ih b (by rw [List.length_append, List.length_cons] at hl; omega), Nat.add_zero, List.take_left]
theorem lib_split (c : UInt8) (l : List UInt8) : Go.Lib.splitB (BS [c]) 0 (Go.Lib.countB (BS l) (BS [c])) (BS l) = (SPL c l).map BS := by
  have h1 := Go.Lib.splitB_data (BS [c]) 0 (Go.Lib.countB (BS l) (BS [c])) (BS l)
  rw [bs_data, bs_data] at h1
  have h2 : Go.Lib.countB (BS l) (BS [c]) = Go.Lib.count l [c] := by
    show Go.Lib.count (BS l).data.toList (BS [c]).data.toList = _
    rw [bs_data, bs_data]
  rw [h2, lib_splitK c _ l (Nat.le_refl _)] at h1
  rw [h2, ← h1, List.map_map]
  exact (List.map_id'' (fun s => by show BS s.data.toList = s; simp [BS]) _).symm
theorem lib_cut (c : UInt8) (l : List UInt8) : Go.Lib.cut l [c] = CUT c l := by
  rcases first_of c l with h | ⟨a, b, rfl, h⟩
  · rw [Go.Lib.cut, lib_index_none l c h, if_neg (by omega), cut_none c l h]
  · have hi := lib_index a b c h
    have hd : (a ++ c :: b).drop (a.length + [c].length) = b := by
      rw [← List.drop_drop, List.drop_left]; rfl
    rw [Go.Lib.cut, hi, if_pos (by omega), show ((a.length : Int)).toNat = a.length by omega, hd, List.take_left, cut_hit c a b h]
-- :kit
/-- What digits spell, behind what was read. -/
def dg (a : Nat) (d : UInt8) : Nat := a * 10 + (d.toNat - 48)
def dv (a : Nat) (l : List UInt8) : Nat := l.foldl dg a
def DIG (l : List UInt8) : Prop := ∀ d ∈ l, 48 ≤ d.toNat ∧ d.toNat ≤ 57
theorem dv_nil (a : Nat) : dv a [] = a := rfl
theorem dv_cons (a : Nat) (d : UInt8) (r : List UInt8) : dv a (d :: r) = dv (dg a d) r := by unfold dv; rw [List.foldl_cons]
theorem dv_append (l r : List UInt8) (a : Nat) : dv a (l ++ r) = dv (dv a l) r := by
  induction l generalizing a with
  | nil => rw [List.nil_append, dv_nil]
  | cons d l ih => rw [List.cons_append, dv_cons, ih, dv_cons]
theorem dv_ge : ∀ (l : List UInt8) (a : Nat), a ≤ dv a l
  | [], a => by rw [dv_nil]; exact Nat.le_refl _
  | d :: l, a => by
    have h := dv_ge l (dg a d)
    have h2 : a ≤ dg a d := by unfold dg; omega
    rw [dv_cons]
    exact Nat.le_trans h2 h
theorem digit_nat (k : Nat) (h : k < 10) : (UInt8.ofNat (48 + k)).toNat = 48 + k := by
  rw [UInt8.toNat_ofNat']; omega
theorem dec_dig : ∀ (n u : Nat), u ≤ n → DIG (Go.Lib.decDigits u) ∧ Go.Lib.decDigits u ≠ [] ∧ dv 0 (Go.Lib.decDigits u) = u
  | n, u, h => by
    by_cases c : u < 10
    · rw [dec_lt c]
      refine ⟨fun d hd => ?_, by simp, ?_⟩
      · rw [List.mem_singleton] at hd
        subst hd
        rw [digit_nat u c]; omega
      · rw [dv_cons, dv_nil, dg, digit_nat u c]; omega
    · match n, h with
      | 0, h => omega
      | n + 1, h =>
      obtain ⟨h1, h2, h3⟩ := dec_dig n (u / 10) (by omega)
      rw [dec_ge c]
      refine ⟨fun d hd => ?_, by simp, ?_⟩
      · rw [List.mem_append, List.mem_singleton] at hd
        rcases hd with hd | rfl
        · exact h1 d hd
        · rw [digit_nat _ (by omega)]; omega
      · rw [dv_append, h3, dv_cons, dv_nil, dg, digit_nat _ (by omega)]; omega
theorem dec_len10 : ∀ (k u : Nat), u < 10 ^ (k + 1) → (Go.Lib.decDigits u).length ≤ k + 1
  | 0, u, h => by rw [dec_lt (by simpa using h)]; simp
  | k + 1, u, h => by
    by_cases c : u < 10
    · rw [dec_lt c]; simp
    · have := dec_len10 k (u / 10) (by rw [Nat.pow_succ] at h; omega)
      rw [dec_ge c, List.length_append]
      simp; omega
/-- The number of a text of sign and digits. -/
def dsg (l : List UInt8) : Int := if l.head? = some 45 then -(dv 0 l.tail : Int) else (dv 0 l : Int)
/-- The number with a text, if it is from -10^9 to 10^9; else 0. -/
def VAL (l : List UInt8) : Int × Bool := if Go.Lib.itoa (dsg l) = l ∧ -1000000000 ≤ dsg l ∧ dsg l ≤ 1000000000 then (dsg l, true) else (0, false)
theorem dig_head {l : List UInt8} (h : DIG l) : l.head? ≠ some 45 := by
  intro e
  cases l with
  | nil => cases e
  | cons d r =>
    injection e with e
    subst e
    exact absurd (h 45 List.mem_cons_self).1 (by decide)
theorem dsg_itoa (v : Int) : dsg (Go.Lib.itoa v) = v := by
  unfold dsg
  rw [itoa_def]
  by_cases c : v < 0
  · obtain ⟨_, _, h3⟩ := dec_dig _ v.natAbs (Nat.le_refl _)
    rw [if_pos c, if_pos (by rfl), List.tail_cons, h3]; omega
  · obtain ⟨h1, _, h3⟩ := dec_dig _ v.toNat (Nat.le_refl _)
    rw [if_neg c, if_neg (dig_head h1), h3]; omega
theorem val_itoa {v : Int} (h : -1000000000 ≤ v ∧ v ≤ 1000000000) : VAL (Go.Lib.itoa v) = (v, true) := by
  unfold VAL
  rw [dsg_itoa, if_pos ⟨rfl, h⟩]
theorem val_no {l : List UInt8} (h : ∀ v : Int, -1000000000 ≤ v ∧ v ≤ 1000000000 → Go.Lib.itoa v ≠ l) : VAL l = (0, false) := by
  unfold VAL
  rw [if_neg (fun h' => h _ h'.2 h'.1)]
-- kit:
theorem lib_parse : ∀ (l : List UInt8) (a : Nat), DIG l → dv a l ≤ 10000000000 → Go.Lib.parseUintM (2 ^ 64 - 1) a l = .ok (dv a l)
  | [], a, _, _ => rfl
  | d :: r, a, hd, hv => by
    have h1 := hd d List.mem_cons_self
    have h2 := dv_ge r (dg a d)
    rw [dv_cons] at hv ⊢
    have h3 : dg a d = a * 10 + (d.toNat - 48) := rfl
    rw [Go.Lib.parseUintM, if_pos h1, if_neg (by omega), if_neg (by omega)]
    exact lib_parse r _ (fun x hx => hd x (List.mem_cons_of_mem _ hx)) hv
theorem lib_parse_itoa {v : Int} (h : -1000000000 ≤ v ∧ v ≤ 1000000000) : Go.Lib.parseIntB 64 (Go.Lib.itoa v) = .ok v := by
  rw [itoa_def]
  by_cases c : v < 0
  · obtain ⟨h1, h2, h3⟩ := dec_dig _ v.natAbs (Nat.le_refl _)
    have hp := lib_parse _ 0 h1 (by omega)
    rw [h3] at hp
    rw [if_pos c]
    simp only [Go.Lib.parseIntB, Go.Lib.parseUintB, show (45 : UInt8).toNat = 45 from rfl, or_true, if_true, if_neg h2, hp]
    rw [if_neg (by simp), if_neg (by omega)]
    congr 1
    omega
  · obtain ⟨h1, h2, h3⟩ := dec_dig _ v.toNat (Nat.le_refl _)
    have hp := lib_parse _ 0 h1 (by omega)
    rw [h3] at hp
    rw [if_neg c]
    cases e : Go.Lib.decDigits v.toNat with
    | nil => exact absurd e h2
    | cons d r =>
      rw [e] at h1 hp
      have hd := h1 d List.mem_cons_self
      simp only [Go.Lib.parseIntB, Go.Lib.parseUintB, if_neg (show ¬ (d.toNat = 43 ∨ d.toNat = 45) by omega), if_neg (show ¬ (d :: r = []) by simp), hp]
      rw [if_neg (by omega), if_neg (by omega), if_neg (by omega)]
      congr 1
      omega
/-- What the program's ReadDecimal tells, by what the library's parser tells. -/
theorem lib_val (l : List UInt8) : VAL l = match Go.Lib.parseIntB 64 l with
    | .ok v => if Go.Lib.itoa v = l ∧ -1000000000 ≤ v ∧ v ≤ 1000000000 then (v, true) else (0, false)
    | _ => (0, false) := by
  by_cases h : ∃ v : Int, (-1000000000 ≤ v ∧ v ≤ 1000000000) ∧ Go.Lib.itoa v = l
  · obtain ⟨v, hv, rfl⟩ := h
    rw [val_itoa hv, lib_parse_itoa hv]
    simp only
    rw [if_pos ⟨trivial, hv⟩]
  · rw [val_no (fun v hv e => h ⟨v, hv, e⟩)]
    split
    · rw [if_neg (fun h' => h ⟨_, h'.2, h'.1⟩)]
    · rfl
-- :kit
-- kit:
theorem toListE (s : ByteArray) : s.toList = s.data.toList := Go.Lib.toList_data s
theorem parse_bnd {l : List UInt8} {v : Int} (h : Go.Lib.parseIntB 64 l = .ok v) : -9223372036854775808 ≤ v ∧ v ≤ 9223372036854775807 := by
  have := Go.Lib.parseIntB_bounds h
  rw [show (2 : Nat) ^ (64 - 1) = 9223372036854775808 by decide] at this
  omega
-- :kit
-- try: theorem toListE (s : ByteArray) : s.toList = s.data.toList := sorry
-- try: theorem parse_bnd {l : List UInt8} {v : Int} (h : parseIntB_ 64 l = .ok v) : -9223372036854775808 ≤ v ∧ v ≤ 9223372036854775807 := sorry
-- try: theorem lib_split (c : UInt8) (l : List UInt8) : splitB_ (BS [c]) 0 (countB_ (BS l) (BS [c])) (BS l) = (SPL c l).map BS := sorry
-- try: theorem lib_cut (c : UInt8) (l : List UInt8) : cut_ l [c] = CUT c l := sorry
-- try: theorem lib_val (l : List UInt8) : VAL l = match parseIntB_ 64 l with | .ok v => if itoa_ v = l ∧ -1000000000 ≤ v ∧ v ≤ 1000000000 then (v, true) else (0, false) | _ => (0, false) := sorry
theorem bs_eta (s : ByteArray) : BS s.data.toList = s := by
  apply ByteArray.ext
  simp [BS]
theorem bs_toList (l : List UInt8) : (BS l).toList = l := by rw [toListE, bs_data]
theorem bs_bt (l : List UInt8) {i : Nat} (h : i < l.length) : bt (BS l) (i : Int) = ((l.getD i 0).toNat : Int) := by
  unfold bt
  rw [dif_pos (by rw [Int.toNat_natCast, bs_size]; exact h)]
  have e : (BS l)[(i : Int).toNat]'(by rw [Int.toNat_natCast, bs_size]; exact h) = l[i] := by simp [BS, ByteArray.getElem_eq_getElem_data]
  rw [e, List.getD_eq_getElem?_getD, List.getElem?_eq_getElem h]
  rfl
theorem bs_extract (l : List UInt8) (a b : Nat) : (BS l).extract a b = BS ((l.drop a).take (b - a)) := by
  apply ByteArray.ext
  simp [BS, ByteArray.data_extract, List.extract_eq_take_drop]
/-- A text of a number: what its sign leaves are digits, at most ten. -/
theorem itoa_parts {v : Int} (h : -1000000000 ≤ v ∧ v ≤ 1000000000) {l : List UInt8} (e : Go.Lib.itoa v = l) :
    DIG (l.drop (if l.head? = some 45 then 1 else 0)) ∧ 1 ≤ (l.drop (if l.head? = some 45 then 1 else 0)).length ∧ (l.drop (if l.head? = some 45 then 1 else 0)).length ≤ 10 := by
  subst e
  rw [itoa_def]
  by_cases c : v < 0
  · obtain ⟨h1, h2, _⟩ := dec_dig _ v.natAbs (Nat.le_refl _)
    have h3 := dec_len10 9 v.natAbs (by omega)
    have h4 := List.length_pos_iff.2 h2
    rw [if_pos c, if_pos (by rfl)]
    exact ⟨h1, h4, h3⟩
  · obtain ⟨h1, h2, _⟩ := dec_dig _ v.toNat (Nat.le_refl _)
    have h3 := dec_len10 9 v.toNat (by omega)
    have h4 := List.length_pos_iff.2 h2
    rw [if_neg c, if_neg (dig_head h1)]
    exact ⟨h1, h4, h3⟩
/-- Numbers told of words, forty at most. -/
def FIN : List Int → List (List UInt8) → List Int × Bool
  | out, [] => (out, true)
  | out, w :: ws => if (VAL w).2 = true then (if out.length = 40 then ([], false) else FIN (out ++ [(VAL w).1]) ws) else ([], false)
/-- The numbers of a list with a text. -/
def NUM (l : List UInt8) : List Int × Bool := if l = [45] then ([], true) else FIN [] (SPL 44 l)
theorem fin_len : ∀ (ws : List (List UInt8)) (out : List Int), out.length ≤ 40 → (FIN out ws).1.length ≤ 40
  | [], out, h => h
  | w :: ws, out, h => by
    rw [FIN]
    split
    · split
      · simp
      · exact fin_len ws _ (by rw [List.length_append, List.length_singleton]; omega)
    · simp
theorem num_len (l : List UInt8) : (NUM l).1.length ≤ 40 := by
  unfold NUM
  split
  · simp
  · exact fin_len _ _ (by simp)
theorem spl_len (c : UInt8) : ∀ l : List UInt8, (SPL c l).length ≤ l.length + 1
  | [] => by simp [SPL]
  | x :: r => by
    have ih := spl_len c r
    rw [SPL]
    split
    · simp; omega
    · rw [List.length_cons, List.length_tail, List.length_cons]; omega
theorem spl_mem (c : UInt8) : ∀ l : List UInt8, ∀ w ∈ SPL c l, w.length ≤ l.length
  | [], w, h => by rw [SPL, List.mem_singleton] at h; subst h; simp
  | x :: r, w, h => by
    have ih := spl_mem c r
    rw [SPL] at h
    split at h
    · rcases List.mem_cons.1 h with rfl | h
      · simp
      · have := ih w h; rw [List.length_cons]; omega
    · have hc : SPL c r = (SPL c r).headD [] :: (SPL c r).tail := by
        cases e : SPL c r with
        | nil => exact absurd e (spl_ne c r)
        | cons a b => rfl
      rcases List.mem_cons.1 h with rfl | h
      · have := ih ((SPL c r).headD []) (by rw [hc]; simp)
        rw [List.length_cons, List.length_cons]; omega
      · have := ih w (by rw [hc]; exact List.mem_cons_of_mem _ h)
        rw [List.length_cons]; omega
theorem cut_len (c : UInt8) : ∀ l : List UInt8, (CUT c l).1.length + (CUT c l).2.1.length ≤ l.length ∧ ((CUT c l).2.2 = true → (CUT c l).1.length + (CUT c l).2.1.length + 1 = l.length)
  | [] => by simp [CUT]
  | x :: r => by
    have ih := cut_len c r
    rw [CUT]
    split
    · simp
    · simp only [List.length_cons]
      refine ⟨by omega, fun h => ?_⟩
      have := ih.2 h
      omega
end Go.Proofs.YtknopokgbechlaaDoor.Base
