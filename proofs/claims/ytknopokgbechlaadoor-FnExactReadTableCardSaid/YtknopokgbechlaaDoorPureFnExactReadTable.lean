/- Proved: the pure half of the law FnExactReadTable: the printed functions answer true, for every input. No condition. -/
import Derived.Test.YtknopokgbechlaaDoorPFnExactReadTablex8
import Derived.Test.YtknopokgbechlaaDoorBase
import Derived.Test.YtknopokgbechlaaDoorLists
import Derived.Test.YtknopokgbechlaaDoorDec
import Derived.Test.YtknopokgbechlaaDoorSpl
import Derived.Test.YtknopokgbechlaaDoorMarks
import Derived.Test.YtknopokgbechlaaDoorMarksS
namespace Go.Proofs.YtknopokgbechlaaDoor.Pure
open Go.RowKit Go.Proofs.YtknopokgbechlaaDoor.PFnExactReadTable Go.Proofs.YtknopokgbechlaaDoorW.PrintWords Go.Proofs.YtknopokgbechlaaDoorW.PrintLast Go.Proofs.YtknopokgbechlaaDoorW.PrintMore Go.Proofs.YtknopokgbechlaaDoor.Base
set_option linter.unusedVariables false
set_option linter.unusedSimpArgs false

/-! spec.l00In -/
theorem in_eq (a b c : Int) : spec_l00In.f a b c = some (decide (b ≤ a ∧ a ≤ c)) := by
  unfold spec_l00In.f
  by_cases h : b ≤ a
  · rw [if_pos (show a ≥ b from h)]; simp [h]
  · rw [if_neg (show ¬ a ≥ b from h)]; simp [h]

/-! spec.l01Dec -/
theorem sdec_l0 (n0 : Int) : ∀ (N : Nat) (x : Int), x.natAbs ≤ N → x.natAbs ≤ 1000000000 → ∀ acc : List UInt8, acc.length + x.natAbs ≤ 2000000000 →
    Ev (fun k => spec_l01Dec.l0 k n0 (BS acc) x) (BS ((if n0 < 0 then [45] else []) ++ (Go.Lib.decDigits x.natAbs ++ acc))) := by
  intro N
  induction N with
  | zero => 
    intro x hN hx acc ha
    obtain rfl : x = 0 := by omega
    apply Ev.succ
    simp only [spec_l01Dec.l0, show Int.tmod 0 10 = 0 from rfl, show Int.tdiv 0 10 = 0 from rfl, w64 (show (-9223372036854775808 : Int) ≤ 0 by omega) (by omega), if_neg (show ¬ (0 : Int) < 0 by omega), Option.bind_some, bs_one, bs_append, bs_size, if_true]
    rw [show Go.Lib.decDigits (Int.natAbs 0) = [UInt8.ofNat 48] from dec_lt (by decide)]
    have e : UInt8.ofNat (wrap64 (48 + 0) % 256).toNat = UInt8.ofNat 48 := by rw [w64 (show (-9223372036854775808 : Int) ≤ 48 + 0 by omega) (by omega)]; rfl
    rw [e]
    by_cases c : n0 < 0
    · simp only [if_pos c, List.length_append, List.length_cons, List.length_nil, if_pos (show 0 + 1 + acc.length ≤ 9223372036854775807 by omega), if_pos (show 1 + (0 + 1 + acc.length) ≤ 9223372036854775807 by omega)]
      rw [show (⟨#[45]⟩ : ByteArray) = BS [45] from rfl, bs_append]
      exact Ev.now _
    · simp only [if_neg c, List.length_append, List.length_cons, List.length_nil, if_pos (show 0 + 1 + acc.length ≤ 9223372036854775807 by omega)]
      exact Ev.now _
  | succ N ih =>
    intro x hN hx acc ha
    have hd : (Int.tdiv x 10).natAbs = x.natAbs / 10 := Int.natAbs_tdiv x 10
    have hm : (Int.tmod x 10).natAbs = x.natAbs % 10 := Int.natAbs_tmod x 10
    have wd : wrap64 (Int.tdiv x 10) = Int.tdiv x 10 := w64 (by omega) (by omega)
    -- the digit, whichever sign
    have key : ∀ c : Int, c.natAbs = x.natAbs % 10 → 0 ≤ c → ∀ y : List Int, y = [wrap64 (48 + c) % 256] → Ev (fun k => if (strOfNums y).size + (BS acc).size ≤ 9223372036854775807 then (if (wrap64 (Int.tdiv x 10)) = 0 then (if n0 < 0 then (if 1 + ((strOfNums y) ++ BS acc).size ≤ 9223372036854775807 then (some ((⟨#[45]⟩ : ByteArray) ++ ((strOfNums y) ++ BS acc))) else (none)) else (some ((strOfNums y) ++ BS acc))) else (spec_l01Dec.l0 k n0 ((strOfNums y) ++ BS acc) (wrap64 (Int.tdiv x 10)))) else (none)) (BS ((if n0 < 0 then [45] else []) ++ (Go.Lib.decDigits x.natAbs ++ acc))) := by
      intro c hc h0 y hy
      subst hy
      have e : UInt8.ofNat (wrap64 (48 + c) % 256).toNat = UInt8.ofNat (48 + x.natAbs % 10) := by
        rw [w64 (by omega) (by omega)]
        exact dec_digit hc h0
      simp only [bs_one, e, bs_append, bs_size, wd, List.length_append, List.length_cons, List.length_nil, if_pos (show 0 + 1 + acc.length ≤ 9223372036854775807 by omega), if_pos (show 1 + (0 + 1 + acc.length) ≤ 9223372036854775807 by omega)]
      by_cases cz : x.natAbs < 10
      · have hz : Int.tdiv x 10 = 0 := by omega
        rw [dec_lt cz, show 48 + x.natAbs % 10 = 48 + x.natAbs by omega]
        simp only [if_pos hz]
        by_cases cn : n0 < 0
        · simp only [if_pos cn]
          rw [show (⟨#[45]⟩ : ByteArray) = BS [45] from rfl, bs_append]
          exact Ev.now _
        · simp only [if_neg cn]
          exact Ev.now _
      · have hz : ¬ Int.tdiv x 10 = 0 := by omega
        simp only [if_neg hz]
        have := ih (Int.tdiv x 10) (by omega) (by omega) ([UInt8.ofNat (48 + x.natAbs % 10)] ++ acc) (by rw [List.length_append, hd]; simp only [List.length_cons, List.length_nil]; omega)
        rw [hd] at this
        rw [dec_ge cz]
        simpa using this
    apply Ev.succ
    by_cases c : Int.tmod x 10 < 0
    · simp only [spec_l01Dec.l0, if_pos c, Option.bind_some, w64 (show (-9223372036854775808 : Int) ≤ -(Int.tmod x 10) by omega) (by omega)]
      exact key (-(Int.tmod x 10)) (by omega) (by omega) _ rfl
    · simp only [spec_l01Dec.l0, if_neg c, Option.bind_some]
      exact key (Int.tmod x 10) hm (by omega) _ rfl
theorem sdec_ev (n : Int) (h : n.natAbs ≤ 1000000000) : Ev (fun k => spec_l01Dec.f k n) (BS (Go.Lib.itoa n)) := by
  have := sdec_l0 n n.natAbs n (Nat.le_refl _) h [] (by simp; omega)
  unfold spec_l01Dec.f
  refine this.to ?_
  rw [itoa_def]
  by_cases c : n < 0
  · rw [if_pos c, if_pos c]; simp
  · rw [if_neg c, if_neg c, show n.toNat = n.natAbs by omega]; simp

/-! spec.l01Value -/
theorem dg_digit {d : UInt8} (a : Nat) (h : 48 ≤ d.toNat ∧ d.toNat ≤ 57) : 10 * (a : Int) + ((d.toNat : Int) - 48) % 256 = ((dg a d : Nat) : Int) := by
  unfold dg; omega
theorem dv_lt : ∀ (l : List UInt8) (a : Nat), DIG l → dv a l < (a + 1) * 10 ^ l.length
  | [], a, _ => by rw [dv_nil]; simp
  | d :: r, a, h => by
    have hd := h d List.mem_cons_self
    have ih := dv_lt r (dg a d) (fun x hx => h x (List.mem_cons_of_mem _ hx))
    rw [dv_cons, List.length_cons, Nat.pow_succ]
    have h2 : dg a d + 1 ≤ (a + 1) * 10 := by unfold dg; omega
    calc dv (dg a d) r < (dg a d + 1) * 10 ^ r.length := ih
      _ ≤ ((a + 1) * 10) * 10 ^ r.length := Nat.mul_le_mul_right _ h2
      _ = (a + 1) * (10 ^ r.length * 10) := by rw [Nat.mul_assoc, Nat.mul_comm 10]
theorem dv_lt10 {l : List UInt8} (h : DIG l) (hl : l.length ≤ 10) : dv 0 l < 10000000000 := by
  have h1 := dv_lt l 0 h
  have h2 : 10 ^ l.length ≤ 10 ^ 10 := Nat.pow_le_pow_right (by decide) hl
  omega
theorem val_j4 (l : List UInt8) {n : Int} (hn : n = dsg l) (hb : n.natAbs ≤ 10000000000) : Ev (fun k => spec_l01Value.j4 k (BS l) n) (VAL l) := by
  apply Ev.succ
  simp only [spec_l01Value.j4, in_eq, Option.bind_some]
  unfold VAL
  rw [← hn]
  by_cases c : -1000000000 ≤ n ∧ n ≤ 1000000000
  · simp only [decide_eq_true c, if_true]
    refine Ev.bind (sdec_ev n (by omega)) ?_
    rw [bs_toList, bs_toList]
    by_cases c2 : Go.Lib.itoa n = l
    · simp only [if_pos c2]
      rw [if_pos (show Go.Lib.itoa n = l ∧ -1000000000 ≤ n ∧ n ≤ 1000000000 from ⟨c2, c⟩)]
      exact Ev.now _
    · simp only [if_neg c2]
      rw [if_neg (show ¬ (Go.Lib.itoa n = l ∧ -1000000000 ≤ n ∧ n ≤ 1000000000) from fun h => c2 h.1)]
      exact Ev.now _
  · rw [if_neg (fun h => c h.2)]
    simp only [decide_eq_false c, Bool.false_eq_true, if_false]
    exact Ev.now _
theorem val_l0 (l : List UInt8) (f : Nat) (hf : f = if l.head? = some 45 then 1 else 0) (hlen : (l.drop f).length ≤ 10) (hl0 : 1 ≤ (l.drop f).length) : ∀ (d m : Nat), m + d = (l.drop f).length → DIG ((l.drop f).take m) → Ev (fun k => spec_l01Value.l0 k (BS l) (f : Int) (dv 0 ((l.drop f).take m) : Int) ((f + m : Nat) : Int)) (VAL l)
  | 0, m, hm, hD => by
    have hfl : f ≤ 1 := by rw [hf]; split <;> omega
    have e : (l.drop f).take m = l.drop f := List.take_of_length_le (by omega)
    rw [e] at hD ⊢
    have hb := dv_lt10 hD hlen
    have hsz : f + m = l.length := by rw [List.length_drop] at hm hl0; omega
    apply Ev.succ
    simp only [spec_l01Value.l0, bs_size, if_neg (show ¬ ((f + m : Nat) : Int) < (l.length : Int) by omega)]
    by_cases c : l.head? = some 45
    · rw [if_pos c] at hf
      subst hf
      simp only [Int.natCast_one, if_true]
      rw [w64 (by omega) (by omega)]
      refine val_j4 l ?_ (by omega)
      unfold dsg
      rw [if_pos c, List.drop_one]
    · rw [if_neg c] at hf
      subst hf
      simp only [Int.natCast_zero, show ¬ (0 : Int) = 1 by omega, if_false]
      refine val_j4 l ?_ (by omega)
      unfold dsg
      rw [if_neg c, List.drop_zero]
  | d + 1, m, hm, hD => by
    have hml : m < (l.drop f).length := by omega
    have hfl : f ≤ 1 := by rw [hf]; split <;> omega
    have hfm : f + m < l.length := by rw [List.length_drop] at hml; omega
    have hx : l.getD (f + m) 0 = (l.drop f)[m] := by
      rw [List.getD_eq_getElem?_getD, List.getElem?_eq_getElem hfm, List.getElem_drop]; rfl
    have hb := dv_lt10 hD (by rw [List.length_take]; omega)
    have htake : (l.drop f).take (m + 1) = (l.drop f).take m ++ [(l.drop f)[m]] := List.take_succ_eq_append_getElem hml
    apply Ev.succ
    simp only [spec_l01Value.l0, bs_size, if_pos (show ((f + m : Nat) : Int) < (l.length : Int) by omega), if_pos (show (0 : Int) ≤ ((f + m : Nat) : Int) by omega), bs_bt l hfm, hx]
    have bad : ¬ (48 ≤ ((l.drop f)[m]).toNat ∧ ((l.drop f)[m]).toNat ≤ 57) → VAL l = (0, false) := fun hc => val_no (fun v hv e => by
      have h1 := (itoa_parts hv e).1
      rw [← hf] at h1
      exact hc (h1 _ (List.getElem_mem hml)))
    by_cases c1 : (((l.drop f)[m]).toNat : Int) < 48
    · simp only [if_pos c1]
      rw [bad (by omega)]
      exact Ev.now _
    · by_cases c2 : (((l.drop f)[m]).toNat : Int) > 57
      · simp only [if_neg c1, if_pos c2]
        rw [bad (by omega)]
        exact Ev.now _
      · have hdig : 48 ≤ ((l.drop f)[m]).toNat ∧ ((l.drop f)[m]).toNat ≤ 57 := by omega
        have ih := val_l0 l f hf hlen hl0 d (m + 1) (by omega) (by
          rw [htake]
          intro x hx2
          rcases List.mem_append.1 hx2 with h | h
          · exact hD x h
          · rw [List.mem_singleton] at h; subst h; exact hdig)
        rw [htake, dv_append, dv_cons, dv_nil, ← dg_digit _ hdig] at ih
        simp only [if_neg c1, if_neg c2]
        rw [w64 (x := 10 * (dv 0 ((l.drop f).take m) : Int)) (by omega) (by omega), w64 (by omega) (by omega), w64 (by omega) (by omega)]
        rw [show ((f + (m + 1) : Nat) : Int) = ((f + m : Nat) : Int) + 1 by omega] at ih
        exact ih
theorem val_j1 (l : List UInt8) (hl : l.length ≤ 1048576) (f : Nat) (hf : f = if l.head? = some 45 then 1 else 0) : Ev (fun k => spec_l01Value.j1 k (BS l) (f : Int)) (VAL l) := by
  have hfl : f ≤ l.length := by
    rw [hf]
    split
    · rename_i h
      cases l with
      | nil => cases h
      | cons x r => simp
    · omega
  have hd : (l.drop f).length = l.length - f := List.length_drop
  have bad : ¬ (1 ≤ (l.drop f).length ∧ (l.drop f).length ≤ 10) → VAL l = (0, false) := fun hc => val_no (fun v hv e => by
    have h1 := (itoa_parts hv e).2
    rw [← hf] at h1
    exact hc h1)
  apply Ev.succ
  simp only [spec_l01Value.j1, bs_size]
  rw [w64 (x := (l.length : Int) - (f : Int)) (by omega) (by omega)]
  by_cases c1 : (l.length : Int) - (f : Int) < 1
  · simp only [if_pos c1]
    apply Ev.succ
    simp only [spec_l01Value.j2, if_true]
    rw [bad (by omega)]
    exact Ev.now _
  · simp only [if_neg c1]
    apply Ev.succ
    by_cases c2 : (l.length : Int) - (f : Int) > 10
    · simp only [spec_l01Value.j2, decide_eq_true c2, if_true]
      rw [bad (by omega)]
      exact Ev.now _
    · simp only [spec_l01Value.j2, decide_eq_false c2, Bool.false_eq_true, if_false]
      have h := val_l0 l f hf (by omega) (by omega) (l.drop f).length 0 (by omega) (by rw [List.take_zero]; exact fun x hx => by cases hx)
      rw [List.take_zero, dv_nil] at h
      exact h
theorem val_ev (l : List UInt8) (hl : l.length ≤ 1048576) : Ev (fun k => spec_l01Value.f k (BS l)) (VAL l) := by
  unfold spec_l01Value.f
  cases l with
  | nil =>
    simp only [bs_size, List.length_nil, show ¬ ((0 : Nat) : Int) > 0 by omega, if_false]
    apply Ev.succ
    simp only [spec_l01Value.j0, Bool.false_eq_true, if_false]
    exact val_j1 [] (by simp) 0 rfl
  | cons x r =>
    have h0 : ((x :: r).length : Int) > 0 := by rw [List.length_cons]; omega
    have hb := bs_bt (x :: r) (i := 0) (by simp)
    simp only [Int.natCast_zero] at hb
    simp only [bs_size, if_pos h0, if_pos (show (0 : Int) < ((x :: r).length : Int) from h0), hb]
    apply Ev.succ
    by_cases c : x = 45
    · subst c
      simp only [spec_l01Value.j0, show (((([45] ++ r : List UInt8).getD 0 0).toNat : Int) == 45) = true from rfl, show ((((45 :: r : List UInt8).getD 0 0).toNat : Int) == 45) = true from rfl, if_true]
      exact val_j1 (45 :: r) hl 1 rfl
    · have hx : ((((x :: r : List UInt8).getD 0 0).toNat : Int) == 45) = false := by
        rw [beq_eq_false_iff_ne]
        intro e
        exact c (UInt8.toNat_inj.1 (show x.toNat = (45 : UInt8).toNat by have : ((x.toNat : Nat) : Int) = 45 := e; show x.toNat = 45; omega))
      simp only [spec_l01Value.j0, hx, Bool.false_eq_true, if_false]
      exact val_j1 (x :: r) hl 0 (by rw [if_neg (fun e => c (by injection e))])

/-! spec.l01Numbers -/
theorem cut_word (pre cur rest : List UInt8) : ((pre ++ (cur ++ rest)).drop pre.length).take cur.length = cur := by
  rw [List.drop_left, List.take_left]
theorem num_l0 (out0 : Unit) : ∀ (rest pre cur : List UInt8) (out : List Int), (∀ x ∈ cur, x ≠ 44) → pre.length + cur.length + rest.length ≤ 1048576 → out.length ≤ 40 → Ev (fun k => spec_l01Numbers.l0 k (BS (pre ++ (cur ++ rest))) out (pre.length : Int) ((pre.length + cur.length : Nat) : Int)) (FIN out (SPL 44 (cur ++ rest))) := by
  intro rest
  have word : ∀ (rest pre cur : List UInt8) (out : List Int), pre.length + cur.length + rest.length ≤ 1048576 → out.length ≤ 40 → ∀ {s : List Int × Bool}, ((VAL cur).2 = true → out.length ≠ 40 → Ev (fun k => spec_l01Numbers.l0 k (BS (pre ++ (cur ++ rest))) (out ++ [(VAL cur).1]) (wrap64 (((pre.length + cur.length : Nat) : Int) + 1)) (wrap64 (((pre.length + cur.length : Nat) : Int) + 1))) s) → Ev (fun k => spec_l01Numbers.j1 k (BS (pre ++ (cur ++ rest))) out (pre.length : Int) ((pre.length + cur.length : Nat) : Int) false) (if (VAL cur).2 = true then (if out.length = 40 then ([], false) else s) else ([], false)) := by
    intro rest pre cur out hl ho s h
    apply Ev.succ
    simp only [spec_l01Numbers.j1, Bool.false_eq_true, if_false, if_pos (show (0 : Int) ≤ (pre.length : Int) by omega), if_pos (show (pre.length : Int) ≤ ((pre.length + cur.length : Nat) : Int) by omega), bs_size, List.length_append, if_pos (show ((pre.length + cur.length : Nat) : Int) ≤ ((pre.length + (cur.length + rest.length) : Nat) : Int) by omega), Int.toNat_natCast, bs_extract, show pre.length + cur.length - pre.length = cur.length by omega, cut_word]
    refine Ev.bind (val_ev cur (by omega)) ?_
    by_cases c : (VAL cur).2 = true
    · simp only [if_pos c]
      by_cases c2 : out.length = 40
      · simp only [if_pos c2, if_pos (show (out.length : Int) = 40 by omega)]
        exact Ev.now _
      · simp only [if_neg c2, if_neg (show ¬ (out.length : Int) = 40 by omega), if_pos (show out.length < 17592186044416 by omega)]
        exact h c c2
    · simp only [if_neg c]
      exact Ev.now _
  induction rest with
  | nil =>
    intro pre cur out hc hl ho
    rw [List.append_nil, spl_none 44 cur hc, FIN]
    have hw := word [] pre cur out hl ho (s := FIN (out ++ [(VAL cur).1]) []) (fun _ _ => by
      rw [List.append_nil]
      apply Ev.succ
      simp only [spec_l01Numbers.l0, bs_size, List.length_append]
      rw [w64 (by omega) (by omega)]
      simp only [if_neg (show ¬ (((pre.length + cur.length : Nat) : Int) + 1) ≤ ((pre.length + cur.length : Nat) : Int) by omega)]
      exact Ev.now _)
    rw [List.append_nil] at hw
    apply Ev.succ
    simp only [spec_l01Numbers.l0, bs_size, List.length_append, if_pos (show ((pre.length + cur.length : Nat) : Int) ≤ ((pre.length + cur.length : Nat) : Int) by omega), if_neg (show ¬ ((pre.length + cur.length : Nat) : Int) < ((pre.length + cur.length : Nat) : Int) by omega)]
    exact hw
  | cons c r ih =>
    intro pre cur out hc hl ho
    rw [List.length_cons] at hl
    have hx : (pre ++ (cur ++ c :: r)).getD (pre.length + cur.length) 0 = c := by
      rw [← List.append_assoc, List.getD_eq_getElem?_getD, List.getElem?_append_right (by simp)]
      simp
    have hbt := bs_bt (pre ++ (cur ++ c :: r)) (i := pre.length + cur.length) (by simp)
    rw [hx] at hbt
    apply Ev.succ
    simp only [spec_l01Numbers.l0, bs_size, List.length_append, List.length_cons, if_pos (show ((pre.length + cur.length : Nat) : Int) ≤ ((pre.length + (cur.length + (r.length + 1)) : Nat) : Int) by omega), if_pos (show ((pre.length + cur.length : Nat) : Int) < ((pre.length + (cur.length + (r.length + 1)) : Nat) : Int) by omega), if_pos (show (0 : Int) ≤ ((pre.length + cur.length : Nat) : Int) by omega), hbt]
    by_cases e : c = 44
    · subst e
      rw [spl_hit 44 cur r hc, FIN]
      have hw := word (44 :: r) pre cur out (by rw [List.length_cons]; omega) ho (s := FIN (out ++ [(VAL cur).1]) (SPL 44 r)) (fun _ h40 => by
        have h := ih (pre ++ (cur ++ [44])) [] (out ++ [(VAL cur).1]) (fun x hx => by cases hx) (by simp; omega) (by simp; omega)
        rw [List.nil_append, List.append_assoc, List.append_assoc, List.singleton_append] at h
        simp only [List.length_append, List.length_nil, List.length_singleton, Nat.add_zero] at h
        rw [w64 (by omega) (by omega), show ((pre.length + cur.length : Nat) : Int) + 1 = ((pre.length + (cur.length + 1) : Nat) : Int) by omega]
        exact h)
      rw [show ((((44 : UInt8).toNat : Nat) : Int) != 44) = false from rfl]
      exact hw
    · have hne : (((c.toNat : Nat) : Int) != 44) = true := by
        rw [bne_iff_ne]
        intro h
        exact e (UInt8.toNat_inj.1 (show c.toNat = (44 : UInt8).toNat by show c.toNat = 44; omega))
      rw [hne]
      apply Ev.succ
      simp only [spec_l01Numbers.j1, if_true]
      have h := ih pre (cur ++ [c]) out (fun x hx => by
        rcases List.mem_append.1 hx with hx | hx
        · exact hc x hx
        · rw [List.mem_singleton] at hx; subst hx; exact e) (by simp; omega) ho
      rw [List.append_assoc, List.singleton_append] at h
      simp only [List.length_append, List.length_singleton] at h
      rw [w64 (by omega) (by omega), show ((pre.length + cur.length : Nat) : Int) + 1 = ((pre.length + (cur.length + 1) : Nat) : Int) by omega]
      exact h
theorem num_ev (l : List UInt8) (hl : l.length ≤ 1048576) : Ev (fun k => spec_l01Numbers.f k (BS l)) (NUM l) := by
  unfold spec_l01Numbers.f NUM
  simp only [Option.bind_some, bs_toList]
  by_cases c : l = [45]
  · simp only [if_pos c]; exact Ev.now _
  · simp only [if_neg c]
    have h := num_l0 () l [] [] [] (fun x hx => by cases hx) (by simpa using hl) (by simp)
    simp only [List.nil_append, List.length_nil, Nat.zero_add, Int.natCast_zero] at h
    exact h

/-! spec.l05Is -/
/-- A valid table. -/
def rowOk (n : Nat) (r : List Int) : Bool := decide (r.length = n) && r.all fun x => decide (0 ≤ x ∧ x ≤ 100000)
def VT (d : Int) (l : List (List Int)) : Bool := decide (1 ≤ d ∧ d ≤ 1000) && (decide (1 ≤ (l.length : Int) ∧ (l.length : Int) ≤ 5) && (decide (1 ≤ ((l.headD []).length : Int) ∧ ((l.headD []).length : Int) ≤ 5) && l.all (rowOk (l.headD []).length)))
theorem rdl_get4 {xs : List (List Int)} {i : Nat} (h : i < xs.length) : rd_L2 xs (i : Int) = xs[i] := by
  unfold rd_L2; exact getD_get h
theorem rdl_head (xs : List (List Int)) : rd_L2 xs 0 = xs.headD [] := by
  unfold rd_L2; cases xs <;> rfl
theorem side_eq (a : Int) : spec_l05Side.f a = some (decide (1 ≤ a ∧ a ≤ 5)) := by
  unfold spec_l05Side.f
  by_cases h : 1 ≤ a
  · rw [if_pos (show a ≥ 1 from h)]; simp [h]
  · rw [if_neg (show ¬ a ≥ 1 from h)]; simp [h]
theorem vt_l1 (d : Int) (l : List (List Int)) (i : Nat) (hi : i < l.length) (hm : (l[i]).length ≤ 1048576) {r : Bool} (hr : Ev (fun k => spec_l05Is.l0 k (wrap64 ((i : Int) + 1)) d l) r) : Ev (fun k => spec_l05Is.l1 k i 0 d l) (((l[i]).all fun x => decide (0 ≤ x ∧ x ≤ 100000)) && r) := by
  refine all_loop l[i] (fun x => decide (0 ≤ x ∧ x ≤ 100000)) (fun k j => spec_l05Is.l1 k i j d l) ?_ ?_ ?_
  · apply Ev.succ
    simp only [spec_l05Is.l1, if_pos (show 0 ≤ (i : Int) by omega), if_pos (show (i : Int) < (l.length : Int) by omega), rdl_get4 hi, if_neg (show ¬ ((l[i]).length : Int) < (l[i]).length by omega)]
    exact hr
  · intro j hj hp
    apply Ev.succ
    simp only [spec_l05Is.l1, if_pos (show 0 ≤ (i : Int) by omega), if_pos (show (i : Int) < (l.length : Int) by omega), rdl_get4 hi, if_pos (show (j : Int) < (l[i]).length by omega), if_pos (show 0 ≤ (j : Int) by omega), rd_get hj, in_eq, Option.bind_some, hp, Bool.false_eq_true, if_false]
    exact Ev.now _
  · intro j hj hp r hr
    apply Ev.succ
    simp only [spec_l05Is.l1, if_pos (show 0 ≤ (i : Int) by omega), if_pos (show (i : Int) < (l.length : Int) by omega), rdl_get4 hi, if_pos (show (j : Int) < (l[i]).length by omega), if_pos (show 0 ≤ (j : Int) by omega), rd_get hj, in_eq, Option.bind_some, hp, if_true, inc hj (by omega)]
    exact hr
theorem vt_l0 (d : Int) (l : List (List Int)) (hl : l.length ≤ 1048576) (hr : ∀ r ∈ l, r.length ≤ 1048576) : Ev (fun k => spec_l05Is.l0 k 0 d l) (l.all (rowOk (l.headD []).length)) := by
  refine (all_loop l (rowOk (l.headD []).length) (fun k j => spec_l05Is.l0 k j d l) (r := true) ?_ ?_ ?_).to (by rw [Bool.and_true])
  · apply Ev.succ
    simp only [spec_l05Is.l0, if_neg (show ¬ (l.length : Int) < l.length by omega)]
    exact Ev.now _
  · intro i hi hp
    apply Ev.succ
    simp only [spec_l05Is.l0, if_pos (show (i : Int) < (l.length : Int) by omega), if_pos (show 0 ≤ (i : Int) by omega), if_pos (show 0 < (l.length : Int) by omega), rdl_get4 hi, rdl_head]
    by_cases e : (l[i]).length = (l.headD []).length
    · simp only [if_pos (show ((l[i]).length : Int) = (l.headD []).length by omega)]
      simp only [rowOk, decide_eq_true e, Bool.true_and] at hp
      have hm := hr l[i] (List.getElem_mem hi)
      -- whatever stands behind it, the row itself says no
      refine all_no l[i] (L := fun k j => spec_l05Is.l1 k i j d l) (by omega) ?_ hp ?_
      · intro j hj hq
        apply Ev.succ
        simp only [spec_l05Is.l1, if_pos (show 0 ≤ (i : Int) by omega), if_pos (show (i : Int) < (l.length : Int) by omega), rdl_get4 hi, if_pos (show (j : Int) < (l[i]).length by omega), if_pos (show 0 ≤ (j : Int) by omega), rd_get hj, in_eq, Option.bind_some, hq, Bool.false_eq_true, if_false]
        exact Ev.now _
      · intro j hj hq r hr
        apply Ev.succ
        simp only [spec_l05Is.l1, if_pos (show 0 ≤ (i : Int) by omega), if_pos (show (i : Int) < (l.length : Int) by omega), rdl_get4 hi, if_pos (show (j : Int) < (l[i]).length by omega), if_pos (show 0 ≤ (j : Int) by omega), rd_get hj, in_eq, Option.bind_some, hq, if_true, inc hj (by omega)]
        exact hr
    · simp only [if_neg (show ¬ ((l[i]).length : Int) = (l.headD []).length by omega)]
      exact Ev.now _
  · intro i hi hp r hr'
    simp only [rowOk, Bool.and_eq_true, decide_eq_true_eq] at hp
    apply Ev.succ
    simp only [spec_l05Is.l0, if_pos (show (i : Int) < (l.length : Int) by omega), if_pos (show 0 ≤ (i : Int) by omega), if_pos (show 0 < (l.length : Int) by omega), rdl_get4 hi, rdl_head, if_pos (show ((l[i]).length : Int) = (l.headD []).length by omega)]
    refine (vt_l1 d l i hi (hr _ (List.getElem_mem hi)) (r := r) ?_).to (by rw [hp.2, Bool.true_and])
    rw [inc hi (by omega)]
    exact hr'
theorem l05Is_ev (d : Int) (l : List (List Int)) (hl : l.length ≤ 1048576) (hr : ∀ r ∈ l, r.length ≤ 1048576) : Ev (fun k => spec_l05Is.f k d l) (VT d l) := by
  unfold spec_l05Is.f VT
  simp only [in_eq, side_eq, Option.bind_some, rdl_head]
  by_cases h1 : 1 ≤ d ∧ d ≤ 1000
  · by_cases h2 : 1 ≤ (l.length : Int) ∧ (l.length : Int) ≤ 5
    · simp only [decide_eq_true h1, decide_eq_true h2, if_true, if_pos (show 0 < (l.length : Int) by omega), Bool.true_and]
      apply Ev.succ
      by_cases h3 : 1 ≤ ((l.headD []).length : Int) ∧ ((l.headD []).length : Int) ≤ 5
      · simp only [spec_l05Is.j0, decide_eq_true h3, Bool.not_true, Bool.false_eq_true, if_false, Bool.true_and]
        exact vt_l0 d l hl hr
      · simp only [spec_l05Is.j0, decide_eq_false h3, Bool.not_false, if_true, Bool.false_and]
        exact Ev.now _
    · simp only [decide_eq_true h1, decide_eq_false h2, if_true, Bool.false_eq_true, if_false, Bool.false_and, Bool.and_false]
      apply Ev.succ
      simp only [spec_l05Is.j0, if_true]
      exact Ev.now _
  · simp only [decide_eq_false h1, Bool.false_eq_true, if_false, Bool.false_and]
    apply Ev.succ
    simp only [spec_l05Is.j0, if_true]
    exact Ev.now _
theorem vt_facts {d : Int} {l : List (List Int)} (h : VT d l = true) : 1 ≤ l.length ∧ l.length ≤ 5 ∧ (l.headD []).length ≤ 5 ∧ ∀ i, i < l.length → (l.getD i []).length = (l.headD []).length := by
  simp only [VT, rowOk, Bool.and_eq_true, List.all_eq_true, decide_eq_true_iff] at h
  obtain ⟨_, h2, h3, h4⟩ := h
  refine ⟨by omega, by omega, by omega, fun i hi => ?_⟩
  have := h4 (l.getD i []) (by simp [List.getD_eq_getElem?_getD, hi])
  exact this.1

/-! spec.l05Read -/
/-- Rows told of words, five at most. -/
def TFIN (d : Int) : List (List Int) → List (List UInt8) → Int × List (List Int) × Bool
  | out, [] => if VT d out = true then (d, out, true) else (0, [], false)
  | out, w :: ws => if (NUM w).2 = true then (if out.length = 5 then (0, [], false) else TFIN d (out ++ [(NUM w).1]) ws) else (0, [], false)
/-- The table with a text. -/
def RT (l : List UInt8) : Int × List (List Int) × Bool := if (CUT 58 l).2.2 = true ∧ (VAL (CUT 58 l).1).2 = true then TFIN (VAL (CUT 58 l).1).1 [] (SPL 47 (CUT 58 l).2.1) else (0, [], false)
theorem tab_l1 (d : Int) : ∀ (rest pre cur : List UInt8) (out : List (List Int)), (∀ x ∈ cur, x ≠ 47) → pre.length + cur.length + rest.length ≤ 1048576 → out.length ≤ 5 → (∀ r ∈ out, r.length ≤ 40) → Ev (fun k => spec_l05Read.l1 k (BS (pre ++ (cur ++ rest))) (pre.length : Int) ((pre.length + cur.length : Nat) : Int) d out) (TFIN d out (SPL 47 (cur ++ rest))) := by
  intro rest
  have word : ∀ (rest pre cur : List UInt8) (out : List (List Int)), pre.length + cur.length + rest.length ≤ 1048576 → out.length ≤ 5 → ∀ {s : Int × List (List Int) × Bool}, ((NUM cur).2 = true → out.length ≠ 5 → Ev (fun k => spec_l05Read.l1 k (BS (pre ++ (cur ++ rest))) (wrap64 (((pre.length + cur.length : Nat) : Int) + 1)) (wrap64 (((pre.length + cur.length : Nat) : Int) + 1)) d (out ++ [(NUM cur).1])) s) → Ev (fun k => spec_l05Read.j4 k (BS (pre ++ (cur ++ rest))) (pre.length : Int) ((pre.length + cur.length : Nat) : Int) false d out) (if (NUM cur).2 = true then (if out.length = 5 then (0, [], false) else s) else (0, [], false)) := by
    intro rest pre cur out hl ho s h
    apply Ev.succ
    simp only [spec_l05Read.j4, Bool.false_eq_true, if_false, if_pos (show (0 : Int) ≤ (pre.length : Int) by omega), if_pos (show (pre.length : Int) ≤ ((pre.length + cur.length : Nat) : Int) by omega), bs_size, List.length_append, if_pos (show ((pre.length + cur.length : Nat) : Int) ≤ ((pre.length + (cur.length + rest.length) : Nat) : Int) by omega), Int.toNat_natCast, bs_extract, show pre.length + cur.length - pre.length = cur.length by omega, cut_word]
    refine Ev.bind (num_ev cur (by omega)) ?_
    by_cases c : (NUM cur).2 = true
    · simp only [if_pos c]
      by_cases c2 : out.length = 5
      · simp only [if_pos c2, if_pos (show (out.length : Int) = 5 by omega)]
        exact Ev.now _
      · simp only [if_neg c2, if_neg (show ¬ (out.length : Int) = 5 by omega), if_pos (show out.length < 5864062014805 by omega)]
        exact h c c2
    · simp only [if_neg c]
      exact Ev.now _
  induction rest with
  | nil =>
    intro pre cur out hc hl ho hr
    rw [List.append_nil, spl_none 47 cur hc, TFIN]
    have hw := word [] pre cur out hl ho (s := TFIN d (out ++ [(NUM cur).1]) []) (fun _ h5 => by
      rw [List.append_nil]
      apply Ev.succ
      simp only [spec_l05Read.l1, bs_size, List.length_append]
      rw [w64 (by omega) (by omega)]
      simp only [if_neg (show ¬ (((pre.length + cur.length : Nat) : Int) + 1) ≤ ((pre.length + cur.length : Nat) : Int) by omega)]
      refine Ev.bind (l05Is_ev d (out ++ [(NUM cur).1]) (by simp; omega) (fun r hr2 => by
        rcases List.mem_append.1 hr2 with h | h
        · have := hr r h; omega
        · rw [List.mem_singleton] at h; subst h; have := num_len cur; omega)) ?_
      rw [TFIN]
      by_cases c : VT d (out ++ [(NUM cur).1]) = true
      · simp only [if_pos c]; exact Ev.now _
      · simp only [if_neg c]; exact Ev.now _)
    rw [List.append_nil] at hw
    apply Ev.succ
    simp only [spec_l05Read.l1, bs_size, List.length_append, if_pos (show ((pre.length + cur.length : Nat) : Int) ≤ ((pre.length + cur.length : Nat) : Int) by omega), if_neg (show ¬ ((pre.length + cur.length : Nat) : Int) < ((pre.length + cur.length : Nat) : Int) by omega)]
    exact hw
  | cons c r ih =>
    intro pre cur out hc hl ho hr
    rw [List.length_cons] at hl
    have hx : (pre ++ (cur ++ c :: r)).getD (pre.length + cur.length) 0 = c := by
      rw [← List.append_assoc, List.getD_eq_getElem?_getD, List.getElem?_append_right (by simp)]
      simp
    have hbt := bs_bt (pre ++ (cur ++ c :: r)) (i := pre.length + cur.length) (by simp)
    rw [hx] at hbt
    apply Ev.succ
    simp only [spec_l05Read.l1, bs_size, List.length_append, List.length_cons, if_pos (show ((pre.length + cur.length : Nat) : Int) ≤ ((pre.length + (cur.length + (r.length + 1)) : Nat) : Int) by omega), if_pos (show ((pre.length + cur.length : Nat) : Int) < ((pre.length + (cur.length + (r.length + 1)) : Nat) : Int) by omega), if_pos (show (0 : Int) ≤ ((pre.length + cur.length : Nat) : Int) by omega), hbt]
    by_cases e : c = 47
    · subst e
      rw [spl_hit 47 cur r hc, TFIN]
      have hw := word (47 :: r) pre cur out (by rw [List.length_cons]; omega) ho (s := TFIN d (out ++ [(NUM cur).1]) (SPL 47 r)) (fun _ h5 => by
        have h := ih (pre ++ (cur ++ [47])) [] (out ++ [(NUM cur).1]) (fun x hx => by cases hx) (by simp; omega) (by simp; omega) (fun r hr2 => by
          rcases List.mem_append.1 hr2 with h | h
          · exact hr r h
          · rw [List.mem_singleton] at h; subst h; exact num_len cur)
        rw [List.nil_append, List.append_assoc, List.append_assoc, List.singleton_append] at h
        simp only [List.length_append, List.length_nil, List.length_singleton, Nat.add_zero] at h
        rw [w64 (by omega) (by omega), show ((pre.length + cur.length : Nat) : Int) + 1 = ((pre.length + (cur.length + 1) : Nat) : Int) by omega]
        exact h)
      rw [show ((((47 : UInt8).toNat : Nat) : Int) != 47) = false from rfl]
      exact hw
    · have hne : (((c.toNat : Nat) : Int) != 47) = true := by
        rw [bne_iff_ne]
        intro h
        exact e (UInt8.toNat_inj.1 (show c.toNat = (47 : UInt8).toNat by show c.toNat = 47; omega))
      rw [hne]
      apply Ev.succ
      simp only [spec_l05Read.j4, if_true]
      have h := ih pre (cur ++ [c]) out (fun x hx => by
        rcases List.mem_append.1 hx with hx | hx
        · exact hc x hx
        · rw [List.mem_singleton] at hx; subst hx; exact e) (by simp; omega) ho hr
      rw [List.append_assoc, List.singleton_append] at h
      simp only [List.length_append, List.length_singleton] at h
      rw [w64 (by omega) (by omega), show ((pre.length + cur.length : Nat) : Int) + 1 = ((pre.length + (cur.length + 1) : Nat) : Int) by omega]
      exact h
theorem tab_l0 (h t : List UInt8) : ∀ (rest pre : List UInt8), pre ++ rest = h ++ t → (∀ x ∈ h, x ≠ 58) → (t = [] ∨ ∃ t', t = 58 :: t') → pre.length ≤ h.length → h.length + t.length ≤ 1048576 → ∀ {s : Int × List (List Int) × Bool}, Ev (fun k => spec_l05Read.j1 k (BS (h ++ t)) (h.length : Int)) s → Ev (fun k => spec_l05Read.l0 k (BS (h ++ t)) (pre.length : Int)) s := by
  intro rest
  induction rest with
  | nil =>
    intro pre e hh ht hp hl s hs
    have hlen : pre.length = h.length + t.length := by have := congrArg List.length e; simpa using this
    have ht0 : t.length = 0 := by omega
    apply Ev.succ
    simp only [spec_l05Read.l0, bs_size, List.length_append, if_neg (show ¬ (pre.length : Int) < ((h.length + t.length : Nat) : Int) by omega)]
    rw [show pre.length = h.length by omega]
    exact hs
  | cons c r ih =>
    intro pre e hh ht hp hl s hs
    have hlen : pre.length + (r.length + 1) = h.length + t.length := by have := congrArg List.length e; simpa using this
    have hx : (h ++ t).getD pre.length 0 = c := by
      rw [← e, List.getD_eq_getElem?_getD, List.getElem?_append_right (Nat.le_refl _)]
      simp
    have hbt := bs_bt (h ++ t) (i := pre.length) (by simp; omega)
    rw [hx] at hbt
    apply Ev.succ
    simp only [spec_l05Read.l0, bs_size, List.length_append, if_pos (show (pre.length : Int) < ((h.length + t.length : Nat) : Int) by omega), if_pos (show (0 : Int) ≤ (pre.length : Int) by omega), hbt]
    by_cases c1 : pre.length < h.length
    · have hc : c ≠ 58 := by
        rw [List.getD_eq_getElem?_getD, List.getElem?_append_left c1, List.getElem?_eq_getElem c1] at hx
        rw [← show h[pre.length] = c from hx]
        exact hh _ (List.getElem_mem c1)
      have hne : ¬ ((c.toNat : Nat) : Int) = 58 := by
        intro h2
        exact hc (UInt8.toNat_inj.1 (show c.toNat = (58 : UInt8).toNat by show c.toNat = 58; omega))
      have h2 := ih (pre ++ [c]) (by rw [List.append_assoc, List.singleton_append]; exact e) hh ht (by simp; omega) hl hs
      rw [List.length_append, List.length_singleton] at h2
      simp only [if_neg hne]
      rw [w64 (by omega) (by omega), show (pre.length : Int) + 1 = ((pre.length + 1 : Nat) : Int) by omega]
      exact h2
    · have hpe : pre.length = h.length := by omega
      rcases ht with rfl | ⟨t', rfl⟩
      · simp at hlen; omega
      · have hc : c = 58 := by
          rw [hpe, List.getD_eq_getElem?_getD, List.getElem?_append_right (Nat.le_refl _)] at hx
          simpa using hx.symm
        subst hc
        simp only [show (((58 : UInt8).toNat : Nat) : Int) = 58 from rfl, if_true]
        rw [hpe]
        exact hs
theorem sread_ev (l : List UInt8) (hl : l.length ≤ 1048576) : Ev (fun k => spec_l05Read.f k (BS l)) (RT l) := by
  unfold spec_l05Read.f RT
  rcases first_of 58 l with hn | ⟨a, b, rfl, hn⟩
  · rw [cut_none 58 l hn, if_neg (fun h => by cases h.1)]
    have h := tab_l0 l [] l [] (by simp) hn (.inl rfl) (by simp) (by simpa using hl) (s := (0, [], false)) (by
      rw [List.append_nil]
      apply Ev.succ
      simp only [spec_l05Read.j1, if_pos (show (0 : Int) ≤ (l.length : Int) by omega), bs_size, if_pos (show (l.length : Int) ≤ (l.length : Int) by omega), Int.toNat_natCast, bs_extract, List.drop_zero, Nat.sub_zero, List.take_length]
      refine Ev.bind (val_ev l hl) ?_
      have e : ((l.length : Int) == (l.length : Int)) = true := by simp
      by_cases c : (VAL l).2 = true
      · simp only [if_pos c, e]
        apply Ev.succ
        simp only [spec_l05Read.j2, if_true]
        exact Ev.now _
      · simp only [if_neg c]
        apply Ev.succ
        simp only [spec_l05Read.j2, if_true]
        exact Ev.now _)
    rw [List.append_nil] at h
    exact h
  · rw [cut_hit 58 a b hn]
    rw [List.length_append, List.length_cons] at hl
    refine tab_l0 a (58 :: b) (a ++ 58 :: b) [] (by simp) hn (.inr ⟨b, rfl⟩) (by simp) (by simpa using hl) ?_
    apply Ev.succ
    simp only [spec_l05Read.j1, if_pos (show (0 : Int) ≤ (a.length : Int) by omega), bs_size, List.length_append, List.length_cons, if_pos (show (a.length : Int) ≤ ((a.length + (b.length + 1) : Nat) : Int) by omega), Int.toNat_natCast, bs_extract, List.drop_zero, Nat.sub_zero, List.take_left]
    refine Ev.bind (val_ev a (by omega)) ?_
    have e : ((a.length : Int) == ((a.length + (b.length + 1) : Nat) : Int)) = false := by rw [beq_eq_false_iff_ne]; omega
    by_cases c : (VAL a).2 = true
    · simp only [if_pos c, e, true_and]
      apply Ev.succ
      simp only [spec_l05Read.j2, Bool.false_eq_true, if_false]
      have h := tab_l1 (VAL a).1 b (a ++ [58]) [] [] (fun x hx => by cases hx) (by simp; omega) (by simp) (fun r hr => by cases hr)
      rw [List.nil_append, List.append_assoc, List.singleton_append] at h
      simp only [List.length_append, List.length_singleton, List.length_nil, Nat.add_zero] at h
      rw [w64 (by omega) (by omega), show (a.length : Int) + 1 = ((a.length + 1 : Nat) : Int) by omega]
      exact h
    · simp only [if_neg c]
      rw [if_neg (show ¬ (True ∧ (VAL a).2 = true) from fun h => c h.2)]
      apply Ev.succ
      simp only [spec_l05Read.j2, if_true]
      exact Ev.now _

/-! impl.Decimal -/
theorem decimal_eq (n : Int) (h : n.natAbs ≤ 1000000000) : impl_Decimal.f n = some (BS (Go.Lib.itoa n)) := by
  unfold impl_Decimal.f strconv_FormatInt_41.f
  rw [if_pos ⟨rfl, by omega, by omega⟩]
  rfl

/-! impl.within -/
theorem within_eq (a b c : Int) : impl_within.f a b c = some (decide (b ≤ a ∧ a ≤ c)) := by
  unfold impl_within.f
  by_cases h : b ≤ a
  · rw [if_pos h]; simp [h]
  · rw [if_neg h]; simp [h]

/-! impl.ReadDecimal -/
theorem readDec_eq (l : List UInt8) (hl : l.length ≤ 1048576) : impl_ReadDecimal.f (BS l) = some (VAL l) := by
  unfold impl_ReadDecimal.f
  rw [if_pos (by rw [bs_size]; omega), bs_data, lib_val]
  cases h : Go.Lib.parseIntB 64 l with
  | ok v =>
    have hb := parse_bnd h
    have hd : impl_Decimal.f v = some (BS (Go.Lib.itoa v)) := by
      unfold impl_Decimal.f strconv_FormatInt_41.f
      rw [if_pos ⟨rfl, by omega, by omega⟩]
      rfl
    simp only [hd, Option.bind_some, bs_toList, within_eq]
    by_cases c1 : Go.Lib.itoa v = l
    · by_cases c2 : -1000000000 ≤ v ∧ v ≤ 1000000000
      · rw [if_pos c1, if_pos (decide_eq_true c2), if_pos (show Go.Lib.itoa v = l ∧ -1000000000 ≤ v ∧ v ≤ 1000000000 from ⟨c1, c2⟩)]
      · rw [if_pos c1, if_neg (by rw [decide_eq_false c2]; simp), if_neg (show ¬ (Go.Lib.itoa v = l ∧ -1000000000 ≤ v ∧ v ≤ 1000000000) from fun h => c2 h.2)]
    · rw [if_neg c1, if_neg (show ¬ (Go.Lib.itoa v = l ∧ -1000000000 ≤ v ∧ v ≤ 1000000000) from fun h => c1 h.1)]
  | «syntax» => rfl
  | range => rfl

/-! impl.areWithin -/
theorem aw_l0 (l : List Int) (a b : Int) (hl : l.length ≤ 9223372036854775806) : ∀ (d i : Nat), d + i = l.length → ∃ r : Int, Ev (fun k => slices_IndexFunc_int64_int64_impl_areWithin_1.l0 k l (l.length : Int) i a b) r ∧ (decide (r ≥ 0) = !(l.drop i).all fun n => decide (a ≤ n ∧ n ≤ b)) := by
  intro d
  induction d with
  | zero =>
    intro i hd
    refine ⟨-1, ?_, ?_⟩
    · apply Ev.succ
      simp only [slices_IndexFunc_int64_int64_impl_areWithin_1.l0, if_neg (show ¬ (i : Int) < (l.length : Int) by omega)]
      exact Ev.now _
    · rw [List.drop_of_length_le (by omega)]; rfl
  | succ d ih =>
    intro i hd
    have hi : i < l.length := by omega
    obtain ⟨r, hr, he⟩ := ih (i + 1) (by omega)
    by_cases h : a ≤ l[i] ∧ l[i] ≤ b
    · refine ⟨r, ?_, ?_⟩
      · apply Ev.succ
        simp only [slices_IndexFunc_int64_int64_impl_areWithin_1.l0, if_pos (show (i : Int) < (l.length : Int) by omega), if_pos (show 0 ≤ (i : Int) by omega), rd_get hi, impl_areWithin_1.f, within_eq, decide_eq_true h, Option.bind_some, w64 (show (-9223372036854775808) ≤ (i : Int) + 1 by omega) (by omega)]
        simpa using hr
      · rw [he, List.drop_eq_getElem_cons hi, List.all_cons, decide_eq_true h, Bool.true_and]
    · refine ⟨i, ?_, ?_⟩
      · apply Ev.succ
        simp only [slices_IndexFunc_int64_int64_impl_areWithin_1.l0, if_pos (show (i : Int) < (l.length : Int) by omega), if_pos (show 0 ≤ (i : Int) by omega), rd_get hi, impl_areWithin_1.f, within_eq, decide_eq_false h, Option.bind_some]
        simpa using Ev.now _
      · rw [List.drop_eq_getElem_cons hi, List.all_cons, decide_eq_false h, Bool.false_and]; simp
theorem areWithin_ev (l : List Int) (a b : Int) (hl : l.length ≤ 9223372036854775806) : Ev (fun k => impl_areWithin.f k l a b) (l.all fun n => decide (a ≤ n ∧ n ≤ b)) := by
  obtain ⟨r, hr, he⟩ := aw_l0 l a b hl l.length 0 (by omega)
  unfold impl_areWithin.f
  simp only [slices_ContainsFunc_int64_int64_impl_areWithin_1.f, slices_IndexFunc_int64_int64_impl_areWithin_1.f]
  refine Ev.bind (Ev.bind hr (Ev.now _)) ?_
  refine (Ev.now _).to ?_
  rw [he, List.drop_zero, Bool.not_not]

/-! impl.ReadList -/
theorem val_in (l : List UInt8) (h : (VAL l).2 = true) : -1000000000 ≤ (VAL l).1 ∧ (VAL l).1 ≤ 1000000000 := by
  unfold VAL at h ⊢
  split
  · rename_i c; exact c.2
  · rename_i c; rw [if_neg c] at h; cases h
theorem isList_ev (out : List Int) (hl : out.length ≤ 2000000) : Ev (fun k => impl_isList.f k out) (decide (out.length ≤ 40) && out.all fun n => decide (-1000000000 ≤ n ∧ n ≤ 1000000000)) := by
  unfold impl_isList.f
  by_cases c : (out.length : Int) ≤ 40
  · simp only [if_pos c, decide_eq_true (show out.length ≤ 40 by omega), Bool.true_and]
    exact Ev.bind (areWithin_ev out (-1000000000) 1000000000 (by omega)) (Ev.now _)
  · simp only [if_neg c, decide_eq_false (show ¬ out.length ≤ 40 by omega), Bool.false_and]
    exact Ev.now _
theorem rdOf_map (ws : List (List UInt8)) {i : Nat} (h : i < ws.length) : rdOf ByteArray.empty (ws.map BS) (i : Int) = BS ws[i] := by
  unfold rdOf
  rw [Int.toNat_natCast, List.getD_eq_getElem?_getD, List.getElem?_map, List.getElem?_eq_getElem h]
  rfl
theorem rl_l0 (ws : List (List UInt8)) (hn : ws.length ≤ 1048577) (hw : ∀ w ∈ ws, w.length ≤ 1048576) : ∀ (d i : Nat) (out : List Int), i + d = ws.length → out.length ≤ i → (out.all fun n => decide (-1000000000 ≤ n ∧ n ≤ 1000000000)) = true → Ev (fun k => impl_ReadList.l0 k out (ws.map BS) (ws.length : Int) (i : Int)) (if out.length ≤ 40 then FIN out (ws.drop i) else ([], false))
  | 0, i, out, hi, ho, ha => by
    apply Ev.succ
    simp only [impl_ReadList.l0, if_neg (show ¬ (i : Int) < (ws.length : Int) by omega)]
    rw [List.drop_eq_nil_of_le (by omega), FIN]
    refine Ev.bind (isList_ev out (by omega)) ?_
    rw [ha, Bool.and_true]
    by_cases c : out.length ≤ 40
    · simp only [decide_eq_true c, if_true, if_pos c]; exact Ev.now _
    · simp only [decide_eq_false c, Bool.false_eq_true, if_false, if_neg c]; exact Ev.now _
  | d + 1, i, out, hi, ho, ha => by
    have hi' : i < ws.length := by omega
    rw [List.drop_eq_getElem_cons hi', FIN]
    apply Ev.succ
    simp only [impl_ReadList.l0, if_pos (show (i : Int) < (ws.length : Int) by omega), if_pos (show (0 : Int) ≤ (i : Int) by omega), List.length_map, rdOf_map ws hi', readDec_eq _ (hw _ (List.getElem_mem hi')), Option.bind_some]
    by_cases c : (VAL ws[i]).2 = true
    · have hv := val_in _ c
      have ih := rl_l0 ws hn hw d (i + 1) (out ++ [(VAL ws[i]).1]) (by omega) (by simp; omega) (by rw [List.all_append, ha]; simp [hv])
      simp only [if_pos c, if_pos (show out.length < 17592186044416 by omega), inc hi' (by omega)]
      rw [List.length_append, List.length_singleton] at ih
      by_cases c2 : out.length = 40
      · rw [if_neg (by omega)] at ih
        rw [if_pos (by omega), if_pos c2]
        exact ih
      · by_cases c3 : out.length ≤ 40
        · rw [if_pos (by omega)] at ih
          rw [if_pos c3, if_neg c2]
          exact ih
        · rw [if_neg (by omega)] at ih
          rw [if_neg c3]
          exact ih
    · simp only [if_neg c]
      rw [ite_self]
      exact Ev.now _
theorem split_eq (c : UInt8) (l : List UInt8) (hl : l.length ≤ 1048576) : strings_Split.f (BS l) (BS [c]) = some ((SPL c l).map BS) := by
  unfold strings_Split.f
  rw [if_pos ⟨by rw [bs_size]; simp, by rw [bs_size]; omega⟩, lib_split]
theorem readList_ev (l : List UInt8) (hl : l.length ≤ 1048576) : Ev (fun k => impl_ReadList.f k (BS l)) (NUM l) := by
  unfold impl_ReadList.f NUM
  rw [bs_toList]
  by_cases c : l = [45]
  · simp only [if_pos c]; exact Ev.now _
  · simp only [if_neg c]
    have hs := split_eq 44 l hl
    rw [show (⟨#[44]⟩ : ByteArray) = BS [44] from rfl, hs]
    simp only [Option.bind_some, List.length_map]
    have hlen := spl_len 44 l
    have h := rl_l0 (SPL 44 l) (by omega) (fun w hw => by have := spl_mem 44 l w hw; omega) (SPL 44 l).length 0 [] (by omega) (by simp) (by simp)
    rw [if_pos (by simp)] at h
    exact h

/-! impl.ValidTable -/
def irowOk (n : Nat) (r : List Int) : Bool := decide (r.length = n) && r.all fun x => decide (0 ≤ x ∧ x ≤ 100000)
def iVT (d : Int) (l : List (List Int)) : Bool := decide (1 ≤ d ∧ d ≤ 1000) && (decide (1 ≤ (l.length : Int) ∧ (l.length : Int) ≤ 5) && (decide (1 ≤ ((l.headD []).length : Int) ∧ ((l.headD []).length : Int) ≤ 5) && l.all (irowOk (l.headD []).length)))
theorem rdl_get5 {xs : List (List Int)} {i : Nat} (h : i < xs.length) : rd_L2 xs (i : Int) = xs[i] := by
  unfold rd_L2; exact getD_get h
theorem rdl_head5 (xs : List (List Int)) : rd_L2 xs 0 = xs.headD [] := by
  unfold rd_L2; cases xs <;> rfl
theorem vt1_ev (r : List Int) (d : Int) (l : List (List Int)) (hp : 0 < l.length) (hr : r.length ≤ 1048576) : Ev (fun k => impl_ValidTable_1.f k r d l) (!irowOk (l.headD []).length r) := by
  unfold impl_ValidTable_1.f irowOk
  simp only [if_pos (show 0 < (l.length : Int) by omega), rdl_head5]
  by_cases e : r.length = (l.headD []).length
  · simp only [if_pos (show (r.length : Int) = (l.headD []).length by omega), decide_eq_true e, Bool.true_and]
    exact Ev.bind (areWithin_ev r 0 100000 (by omega)) (Ev.now _)
  · simp only [if_neg (show ¬ (r.length : Int) = (l.headD []).length by omega), decide_eq_false e, Bool.false_and, Bool.not_false]
    exact Ev.now _
theorem iVT_ev (d : Int) (l : List (List Int)) (hl : l.length ≤ 1048576) (hr : ∀ r ∈ l, r.length ≤ 1048576) : Ev (fun k => impl_ValidTable.f k d l) (iVT d l) := by
  unfold impl_ValidTable.f iVT
  simp only [within_eq, impl_size_int64_28.f, impl_size_int64_27.f, Option.bind_some, rdl_head5]
  by_cases h1 : 1 ≤ d ∧ d ≤ 1000
  · by_cases h2 : 1 ≤ (l.length : Int) ∧ (l.length : Int) ≤ 5
    · simp only [decide_eq_true h1, decide_eq_true h2, if_true, if_pos (show 0 < (l.length : Int) by omega), Bool.true_and]
      by_cases h3 : 1 ≤ ((l.headD []).length : Int) ∧ ((l.headD []).length : Int) ≤ 5
      · simp only [decide_eq_true h3, if_true, Bool.true_and]
        obtain ⟨r, hr1, hr2⟩ := find_loop l (fun x => !irowOk (l.headD []).length x) (fun k j => slices_IndexFunc_int64_int64_impl_ValidTable_1.l0 k l (l.length : Int) j d l)
          (by
            apply Ev.succ
            simp only [slices_IndexFunc_int64_int64_impl_ValidTable_1.l0, if_neg (show ¬ (l.length : Int) < l.length by omega)]
            exact Ev.now _)
          (fun i hi hp => by
            apply Ev.succ
            simp only [slices_IndexFunc_int64_int64_impl_ValidTable_1.l0, if_pos (show (i : Int) < (l.length : Int) by omega), if_pos (show 0 ≤ (i : Int) by omega), rdl_get5 hi]
            refine Ev.bind (vt1_ev l[i] d l (by omega) (hr _ (List.getElem_mem hi))) ?_
            simp only [hp, if_true]
            exact Ev.now _)
          (fun i hi hp r hr' => by
            apply Ev.succ
            simp only [slices_IndexFunc_int64_int64_impl_ValidTable_1.l0, if_pos (show (i : Int) < (l.length : Int) by omega), if_pos (show 0 ≤ (i : Int) by omega), rdl_get5 hi]
            refine Ev.bind (vt1_ev l[i] d l (by omega) (hr _ (List.getElem_mem hi))) ?_
            simp only [hp, Bool.false_eq_true, if_false, inc hi (by omega)]
            exact hr')
        simp only [slices_ContainsFunc_int64_int64_impl_ValidTable_1.f, slices_IndexFunc_int64_int64_impl_ValidTable_1.f]
        refine Ev.bind (Ev.bind hr1 (Ev.now _)) ?_
        refine (Ev.now _).to ?_
        rw [hr2, any_not, Bool.not_not]
      · simp only [decide_eq_false h3, Bool.false_eq_true, if_false, Bool.false_and]
        exact Ev.now _
    · simp only [decide_eq_true h1, decide_eq_false h2, if_true, Bool.false_eq_true, if_false, Bool.false_and, Bool.and_false]
      exact Ev.now _
  · simp only [decide_eq_false h1, Bool.false_eq_true, if_false, Bool.false_and]
    exact Ev.now _

/-! impl.ReadTable -/
theorem vt_five {d : Int} {l : List (List Int)} (h : 5 < l.length) : VT d l = false := by
  rw [Bool.eq_false_iff]
  intro hv
  have := (vt_facts hv).2.1
  omega
theorem tfin_eq (d : Int) : ∀ (ws : List (List UInt8)) (out : List (List Int)), out.length ≤ 5 → TFIN d out ws = if (ws.all fun w => (NUM w).2) = true ∧ VT d (out ++ ws.map fun w => (NUM w).1) = true then (d, out ++ ws.map fun w => (NUM w).1, true) else (0, [], false)
  | [], out, h => by simp [TFIN]
  | w :: ws, out, h => by
    rw [TFIN, List.all_cons, List.map_cons]
    by_cases c : (NUM w).2 = true
    · rw [if_pos c, c, Bool.true_and]
      by_cases c2 : out.length = 5
      · rw [if_pos c2, if_neg (fun h2 => by rw [vt_five (by simp; omega)] at h2; cases h2.2)]
      · rw [if_neg c2, tfin_eq d ws _ (by simp; omega)]
        rw [List.append_assoc, List.singleton_append]
    · rw [if_neg c, if_neg (fun h2 => by simp [c] at h2)]
theorem rt_l0 (more : Bool) (d : Int) (ws : List (List UInt8)) (hn : ws.length ≤ 1048576) (hw : ∀ w ∈ ws, w.length ≤ 1048576) : ∀ (e i : Nat) (ok : Bool) (rows : List (List Int)), i + e = ws.length → rows.length = i → (∀ r ∈ rows, r.length ≤ 40) → Ev (fun k => impl_ReadTable.l0 k more ok (ws.map BS) (ws.length : Int) (i : Int) d rows) (if more = true ∧ ok = true ∧ ((ws.drop i).all fun w => (NUM w).2) = true ∧ VT d (rows ++ (ws.drop i).map fun w => (NUM w).1) = true then (d, rows ++ (ws.drop i).map fun w => (NUM w).1, true) else (0, [], false))
  | 0, i, ok, rows, hi, hl, hr => by
    apply Ev.succ
    simp only [impl_ReadTable.l0, if_neg (show ¬ (i : Int) < (ws.length : Int) by omega)]
    rw [List.drop_eq_nil_of_le (by omega)]
    simp only [List.all_nil, List.map_nil, List.append_nil, true_and]
    cases more with
    | false => simp only [Bool.false_eq_true, if_false, false_and]; exact Ev.now _
    | true =>
      cases ok with
      | false => simp only [Bool.false_eq_true, if_false, if_true, false_and, and_false]; exact Ev.now _
      | true =>
        simp only [if_true, true_and]
        refine Ev.bind ((iVT_ev d rows (by omega) (fun r h => by have := hr r h; omega)).to (show iVT d rows = VT d rows from rfl)) ?_
        by_cases c3 : VT d rows = true
        · simp only [if_pos c3]; exact Ev.now _
        · simp only [if_neg c3]; exact Ev.now _
  | e + 1, i, ok, rows, hi, hl, hr => by
    have hi' : i < ws.length := by omega
    have hnum := num_len ws[i]
    have hr' : ∀ r ∈ rows ++ [(NUM ws[i]).1], r.length ≤ 40 := fun r h => by
      rcases List.mem_append.1 h with h | h
      · exact hr r h
      · rw [List.mem_singleton] at h; subst h; exact hnum
    rw [List.drop_eq_getElem_cons hi', List.all_cons, List.map_cons]
    apply Ev.succ
    simp only [impl_ReadTable.l0, if_pos (show (i : Int) < (ws.length : Int) by omega), if_pos (show (0 : Int) ≤ (i : Int) by omega), List.length_map, rdOf_map ws hi']
    refine Ev.bind (readList_ev _ (hw _ (List.getElem_mem hi'))) ?_
    simp only [if_pos (show rows.length < 5864062014805 by omega), inc hi' (by omega)]
    by_cases c : ok = true
    · have ih := rt_l0 more d ws hn hw e (i + 1) (NUM ws[i]).2 (rows ++ [(NUM ws[i]).1]) (by omega) (by simp; omega) hr'
      rw [List.append_assoc, List.singleton_append] at ih
      simp only [if_pos c]
      refine ih.to ?_
      by_cases c2 : (NUM ws[i]).2 = true
      · simp only [c, c2, Bool.true_and, true_and]
      · rw [if_neg (fun h => c2 h.2.1), if_neg (fun h => by
          have h3 := h.2.2.1
          rw [Bool.and_eq_true] at h3
          exact c2 h3.1)]
    · have ih := rt_l0 more d ws hn hw e (i + 1) false (rows ++ [(NUM ws[i]).1]) (by omega) (by simp; omega) hr'
      simp only [if_neg c]
      refine ih.to ?_
      rw [if_neg (fun h => by cases h.2.1), if_neg (fun h => c h.2.1)]
theorem cutf_eq (l : List UInt8) (hl : l.length ≤ 1048576) : strings_Cut.f (BS l) (BS [58]) = some (BS (CUT 58 l).1, BS (CUT 58 l).2.1, (CUT 58 l).2.2) := by
  unfold strings_Cut.f
  rw [if_pos (by rw [bs_size]; omega), bs_data, bs_data, lib_cut]
  rfl
theorem iread_ev (l : List UInt8) (hl : l.length ≤ 1048576) : Ev (fun k => impl_ReadTable.f k (BS l)) (RT l) := by
  unfold impl_ReadTable.f RT
  have hc := cut_len 58 l
  rw [show (⟨#[58]⟩ : ByteArray) = BS [58] from rfl, show (⟨#[47]⟩ : ByteArray) = BS [47] from rfl, cutf_eq l hl]
  simp only [Option.bind_some, readDec_eq _ (show (CUT 58 l).1.length ≤ 1048576 by omega), split_eq 47 _ (show (CUT 58 l).2.1.length ≤ 1048576 by omega), List.length_map]
  have hlen := spl_len 47 (CUT 58 l).2.1
  rw [tfin_eq _ _ _ (by simp)]
  have hn : (SPL 47 (CUT 58 l).2.1).length ≤ 1048576 := by
    by_cases c : (CUT 58 l).2.2 = true
    · have := hc.2 c; omega
    · rcases first_of 58 l with h | ⟨a, b, rfl, h⟩
      · rw [cut_none 58 l h]; simp [SPL]
      · rw [cut_hit 58 a b h] at c; exact absurd rfl c
  have h := rt_l0 (CUT 58 l).2.2 (VAL (CUT 58 l).1).1 (SPL 47 (CUT 58 l).2.1) hn (fun w hw => by have := spl_mem 47 _ w hw; omega) (SPL 47 (CUT 58 l).2.1).length 0 (VAL (CUT 58 l).1).2 [] (by omega) rfl (fun r hr => by cases hr)
  rw [List.drop_zero] at h
  refine h.to ?_
  by_cases c1 : (CUT 58 l).2.2 = true ∧ (VAL (CUT 58 l).1).2 = true
  · rw [if_pos c1]
    simp only [c1.1, c1.2, true_and]
  · rw [if_neg c1, if_neg (fun h2 => c1 ⟨h2.1, h2.2.1⟩)]
theorem rt_bnd (l : List UInt8) : (RT l).2.1.length ≤ 5 ∧ ∀ r ∈ (RT l).2.1, r.length ≤ 40 := by
  unfold RT
  split
  · rw [tfin_eq _ _ _ (by simp)]
    split
    · rename_i c
      refine ⟨(vt_facts c.2).2.1, fun r hr => ?_⟩
      rw [List.nil_append, List.mem_map] at hr
      obtain ⟨w, _, rfl⟩ := hr
      exact num_len w
    · exact ⟨by simp, fun r hr => by cases hr⟩
  · exact ⟨by simp, fun r hr => by cases hr⟩

/-! laws.eqInt64S -/
theorem eq_l0 (a b : List Int) (hl : a.length = b.length) (hm : a.length ≤ 9223372036854775806) : ∀ (d i : Nat), d + i = a.length → Ev (fun k => laws_eqInt64S.l0 k a b i) (decide (a.drop i = b.drop i)) := by
  intro d
  induction d with
  | zero =>
    intro i hd
    apply Ev.succ
    simp only [laws_eqInt64S.l0, if_neg (show ¬ (i : Int) < (a.length : Int) by omega)]
    rw [List.drop_of_length_le (by omega), List.drop_of_length_le (by omega)]
    exact Ev.now _
  | succ d ih =>
    intro i hd
    have hi : i < a.length := by omega
    have hi' : i < b.length := by omega
    apply Ev.succ
    simp only [laws_eqInt64S.l0, if_pos (show (i : Int) < (a.length : Int) by omega), if_pos (show 0 ≤ (i : Int) by omega), if_pos (show (i : Int) < (b.length : Int) by omega), rd_get hi, rd_get hi', w64 (show (-9223372036854775808) ≤ (i : Int) + 1 by omega) (by omega)]
    rw [List.drop_eq_getElem_cons hi, List.drop_eq_getElem_cons hi']
    by_cases h : a[i] = b[i]
    · simp only [if_pos h]
      exact (ih (i + 1) (by omega)).to (by simp only [List.cons.injEq, h, true_and])
    · simp only [if_neg h]
      exact (Ev.now _).to (by simp only [List.cons.injEq, h, false_and, decide_false])
theorem eqInt64S_ev (a b : List Int) (hm : a.length ≤ 9223372036854775806) : Ev (fun k => laws_eqInt64S.f k a b) (decide (a = b)) := by
  unfold laws_eqInt64S.f
  by_cases h : a.length = b.length
  · simp only [if_pos (show (a.length : Int) = (b.length : Int) by omega)]
    simpa using eq_l0 a b h hm a.length 0 (by omega)
  · simp only [if_neg (show ¬ (a.length : Int) = (b.length : Int) by omega)]
    exact (Ev.now _).to (by symm; simp; intro e; exact h (by rw [e]))

/-! laws.eqInt64SS -/
theorem rdl_get3 {xs : List (List Int)} {i : Nat} (h : i < xs.length) : rd_L2 xs (i : Int) = xs[i] := by
  unfold rd_L2; exact getD_get h
theorem eqss_l0 (a b : List (List Int)) (hl : a.length = b.length) (hm : a.length ≤ 9223372036854775806) (hr : ∀ r ∈ a, r.length ≤ 9223372036854775806) : ∀ (d i : Nat), d + i = a.length → Ev (fun k => laws_eqInt64SS.l0 k a b i) (decide (a.drop i = b.drop i)) := by
  intro d
  induction d with
  | zero =>
    intro i hd
    apply Ev.succ
    simp only [laws_eqInt64SS.l0, if_neg (show ¬ (i : Int) < (a.length : Int) by omega)]
    rw [List.drop_of_length_le (by omega), List.drop_of_length_le (by omega)]
    exact Ev.now _
  | succ d ih =>
    intro i hd
    have hi : i < a.length := by omega
    have hi' : i < b.length := by omega
    apply Ev.succ
    simp only [laws_eqInt64SS.l0, if_pos (show (i : Int) < (a.length : Int) by omega), if_pos (show 0 ≤ (i : Int) by omega), if_pos (show (i : Int) < (b.length : Int) by omega), rdl_get3 hi, rdl_get3 hi', w64 (show (-9223372036854775808) ≤ (i : Int) + 1 by omega) (by omega)]
    rw [List.drop_eq_getElem_cons hi, List.drop_eq_getElem_cons hi']
    refine Ev.bind (eqInt64S_ev a[i] b[i] (hr _ (List.getElem_mem hi))) ?_
    by_cases h : a[i] = b[i]
    · simp only [decide_eq_true h, if_true]
      exact (ih (i + 1) (by omega)).to (by simp only [List.cons.injEq, h, true_and])
    · simp only [decide_eq_false h, Bool.false_eq_true, if_false]
      exact (Ev.now _).to (by simp only [List.cons.injEq, h, false_and, decide_false])
theorem eqInt64SS_ev (a b : List (List Int)) (hm : a.length ≤ 9223372036854775806) (hr : ∀ r ∈ a, r.length ≤ 9223372036854775806) : Ev (fun k => laws_eqInt64SS.f k a b) (decide (a = b)) := by
  unfold laws_eqInt64SS.f
  by_cases h : a.length = b.length
  · simp only [if_pos (show (a.length : Int) = (b.length : Int) by omega)]
    simpa using eqss_l0 a b h hm hr a.length 0 (by omega)
  · simp only [if_neg (show ¬ (a.length : Int) = (b.length : Int) by omega)]
    exact (Ev.now _).to (by symm; simp; intro e; exact h (by rw [e]))

/-! laws.eqTable -/
theorem eqTable_ev (d : Int) (l : List (List Int)) (hl : l.length ≤ 1048576) (hr : ∀ r ∈ l, r.length ≤ 1048576) : Ev (fun k => laws_eqTable.f k d l d l) true := by
  unfold laws_eqTable.f
  simp only [if_true]
  refine Ev.bind (eqInt64SS_ev l l (by omega) (fun r h => by have := hr r h; omega)) ?_
  simp only [decide_true, if_true]
  exact Ev.now _

/-! laws.markInt64S -/
theorem mark_l0 (l : List Int) (m : Int) (hl : l.length ≤ 140737488355328) (h0 : 0 ≤ m) (h1 : m ≤ 4611686018427387904) : ∀ (d i : Nat), d + i = l.length → Ev (fun k => laws_markInt64S.l0 k (MARKS m i ++ l.drop i) (m + (i : Int)) i) (m + (l.length : Int), MARKS m l.length) := by
  intro d
  induction d with
  | zero =>
    intro i hd
    apply Ev.succ
    simp only [laws_markInt64S.l0, if_neg (show ¬ (i : Int) < ((MARKS m i ++ l.drop i).length : Int) by simp [MARKS_length]; omega)]
    rw [show i = l.length by omega, List.drop_length, List.append_nil]
    exact Ev.now _
  | succ d ih =>
    intro i hd
    have hi : i < l.length := by omega
    apply Ev.succ
    simp only [laws_markInt64S.l0, if_pos (show (i : Int) < ((MARKS m i ++ l.drop i).length : Int) by simp [MARKS_length]; omega), if_pos (show 0 ≤ (i : Int) by omega), Int.toNat_natCast, marks_step l m i hi, w64 (show (-9223372036854775808) ≤ (i : Int) + 1 by omega) (by omega), w64 (show (-9223372036854775808) ≤ m + (i : Int) + 1 by omega) (by omega)]
    have := ih (i + 1) (by omega)
    rw [Int.natCast_succ, ← Int.add_assoc] at this
    exact this
theorem markInt64S_ev (l : List Int) (m : Int) (hl : l.length ≤ 140737488355328) (h0 : 0 ≤ m) (h1 : m ≤ 4611686018427387904) : Ev (fun k => laws_markInt64S.f k l m) (m + (l.length : Int), MARKS m l.length) := by
  have := mark_l0 l m hl h0 h1 l.length 0 (by omega)
  simpa [laws_markInt64S.f, MARKS] using this

/-! laws.markInt64SS -/
theorem rdl_getM {xs : List (List Int)} {i : Nat} : rd_L2 xs (i : Int) = xs.getD i [] := by
  unfold rd_L2; simp
theorem mssk_l0 (l : List (List Int)) (m : Int) (hl : l.length ≤ 1048576) (hr : ∀ r ∈ l, r.length ≤ 1048576) (h0 : 0 ≤ m) (h1 : m ≤ 100000000000000) : ∀ (d i : Nat), d + i = l.length → Ev (fun k => laws_markInt64SS.l0 k (MSS m (l.take i) ++ l.drop i) (mtot_ m (l.take i)) i) (mtot_ m l, MSS m l) := by
  have hb : ((1048576 : Nat) : Int) * (l.length : Int) ≤ 1099511627776 := by
    have := Int.mul_le_mul_of_nonneg_left (show (l.length : Int) ≤ 1048576 by omega) (show (0 : Int) ≤ ((1048576 : Nat) : Int) by omega)
    omega
  intro d
  induction d with
  | zero =>
    intro i hd
    apply Ev.succ
    simp only [laws_markInt64SS.l0, if_neg (show ¬ (i : Int) < ((MSS m (l.take i) ++ l.drop i).length : Int) by rw [List.length_append, MSS_length]; simp; omega)]
    rw [List.take_of_length_le (by omega), List.drop_of_length_le (by omega), List.append_nil]
    exact Ev.now _
  | succ d ih =>
    intro i hd
    have hi : i < l.length := by omega
    have hm := hr (l.getD i []) (getD_mem hi)
    have hb2 := mtot_mono l m i 1048576 hr (by omega)
    apply Ev.succ
    simp only [laws_markInt64SS.l0, if_pos (show (i : Int) < ((MSS m (l.take i) ++ l.drop i).length : Int) by rw [List.length_append, MSS_length]; simp; omega), if_pos (show 0 ≤ (i : Int) by omega), rdl_getM, MSS_now l m i hi, inc hi (by omega), Int.toNat_natCast]
    refine Ev.bind (markInt64S_ev (l.getD i []) (mtot_ m (l.take i)) (by omega) (by omega) (by omega)) ?_
    simp only [MSS_step l m i hi]
    rw [← mtot_take l m i hi]
    exact ih (i + 1) (by omega)
theorem markSSk_ev (l : List (List Int)) (m : Int) (hl : l.length ≤ 1048576) (hr : ∀ r ∈ l, r.length ≤ 1048576) (h0 : 0 ≤ m) (h1 : m ≤ 100000000000000) : Ev (fun k => laws_markInt64SS.f k l m) (mtot_ m l, MSS m l) := by
  have := mssk_l0 l m hl hr h0 h1 l.length 0 (by omega)
  simpa [laws_markInt64SS.f, MSS, mtot_] using this

/-! laws.markTable -/
theorem markTablek_ev (d : Int) (l : List (List Int)) (m : Int) (hl : l.length ≤ 1048576) (hr : ∀ r ∈ l, r.length ≤ 1048576) (h0 : 0 ≤ m) (h1 : m ≤ 1000000000) : Ev (fun k => laws_markTable.f k d l m) (mtot_ m l, MSS m l) := by
  unfold laws_markTable.f
  exact markSSk_ev l m hl hr h0 (by omega)

/-! laws.heldInt64S -/
theorem held_l0 (m : Int) (n : Nat) (hl : n ≤ 140737488355328) (h0 : 0 ≤ m) (h1 : m ≤ 4611686018427387904) : ∀ (d i : Nat), d + i = n → Ev (fun k => laws_heldInt64S.l0 k (MARKS m n) (m + (i : Int)) i) (m + (n : Int)) := by
  intro d
  induction d with
  | zero =>
    intro i hd
    apply Ev.succ
    simp only [laws_heldInt64S.l0, MARKS_length, if_neg (show ¬ (i : Int) < (n : Int) by omega)]
    rw [show i = n by omega]
    exact Ev.now _
  | succ d ih =>
    intro i hd
    have hi : i < (MARKS m n).length := by rw [MARKS_length]; omega
    apply Ev.succ
    simp only [laws_heldInt64S.l0, MARKS_length, if_pos (show (i : Int) < (n : Int) by omega), if_pos (show 0 ≤ (i : Int) by omega), rd_get hi, MARKS_get m n i hi, if_true, w64 (show (-9223372036854775808) ≤ (i : Int) + 1 by omega) (by omega), w64 (show (-9223372036854775808) ≤ m + (i : Int) + 1 by omega) (by omega)]
    have := ih (i + 1) (by omega)
    rw [Int.natCast_succ, ← Int.add_assoc] at this
    exact this
theorem heldInt64S_ev (m : Int) (n : Nat) (hl : n ≤ 140737488355328) (h0 : 0 ≤ m) (h1 : m ≤ 4611686018427387904) : Ev (fun k => laws_heldInt64S.f k (MARKS m n) m) (m + (n : Int)) := by
  have := held_l0 m n hl h0 h1 n 0 (by omega)
  simpa [laws_heldInt64S.f] using this

/-! laws.heldInt64SS -/
theorem rdl_getH {xs : List (List Int)} {i : Nat} : rd_L2 xs (i : Int) = xs.getD i [] := by
  unfold rd_L2; simp
theorem hss_l0 (l : List (List Int)) (m : Int) (hl : l.length ≤ 1048576) (hr : ∀ r ∈ l, r.length ≤ 1048576) (h0 : 0 ≤ m) (h1 : m ≤ 100000000000000) : ∀ (d i : Nat), d + i = l.length → Ev (fun k => laws_heldInt64SS.l0 k (MSS m l) (mtot_ m (l.take i)) i) (mtot_ m l) := by
  have hb : ((1048576 : Nat) : Int) * (l.length : Int) ≤ 1099511627776 := by
    have := Int.mul_le_mul_of_nonneg_left (show (l.length : Int) ≤ 1048576 by omega) (show (0 : Int) ≤ ((1048576 : Nat) : Int) by omega)
    omega
  intro d
  induction d with
  | zero =>
    intro i hd
    apply Ev.succ
    simp only [laws_heldInt64SS.l0, MSS_length, if_neg (show ¬ (i : Int) < (l.length : Int) by omega)]
    rw [List.take_of_length_le (by omega)]
    exact Ev.now _
  | succ d ih =>
    intro i hd
    have hi : i < l.length := by omega
    have hm := hr (l.getD i []) (getD_mem hi)
    have hb2 := mtot_mono l m i 1048576 hr (by omega)
    apply Ev.succ
    simp only [laws_heldInt64SS.l0, MSS_length, if_pos (show (i : Int) < (l.length : Int) by omega), if_pos (show 0 ≤ (i : Int) by omega), rdl_getH, MSS_get l m i hi, inc hi (by omega)]
    refine Ev.bind (heldInt64S_ev (mtot_ m (l.take i)) (l.getD i []).length (by omega) (by omega) (by omega)) ?_
    simp only [if_neg (show ¬ (mtot_ m (l.take i) + ((l.getD i []).length : Int)) < 0 by omega)]
    rw [← mtot_take l m i hi]
    exact ih (i + 1) (by omega)
theorem heldSS_ev (l : List (List Int)) (m : Int) (hl : l.length ≤ 1048576) (hr : ∀ r ∈ l, r.length ≤ 1048576) (h0 : 0 ≤ m) (h1 : m ≤ 100000000000000) : Ev (fun k => laws_heldInt64SS.f k (MSS m l) m) (mtot_ m l) := by
  have := hss_l0 l m hl hr h0 h1 l.length 0 (by omega)
  simpa [laws_heldInt64SS.f, mtot_] using this

/-! laws.heldTable -/
theorem heldTable_ev (d : Int) (l : List (List Int)) (m : Int) (hl : l.length ≤ 1048576) (hr : ∀ r ∈ l, r.length ≤ 1048576) (h0 : 0 ≤ m) (h1 : m ≤ 1000000000) (hp : 0 ≤ mtot_ m l) : Ev (fun k => laws_heldTable.f k d (MSS m l) m) (mtot_ m l) := by
  unfold laws_heldTable.f
  refine Ev.bind (heldSS_ev l m hl hr h0 (by omega)) ?_
  simp only [if_neg (show ¬ mtot_ m l < 0 by omega)]
  exact Ev.now _

/-! the law -/
theorem FnExactReadTable : laws_FnExactReadTable.Pure := by
  intro a _
  apply Ev.rounds
  unfold laws_FnExactReadTable.f
  by_cases c : (a.size : Int) > 1048576
  · simp only [if_pos c]; exact Ev.now _
  simp only [if_neg c]
  obtain ⟨l, rfl⟩ : ∃ l, a = BS l := ⟨_, (bs_eta a).symm⟩
  rw [bs_size] at c
  have hs : Ev (fun k => spec_ReadTable.f k (BS l)) (RT l) := by
    unfold spec_ReadTable.f
    exact Ev.bind (sread_ev l (by omega)) (Ev.now _)
  have hi := iread_ev l (by omega)
  obtain ⟨n2, n3⟩ := rt_bnd l
  generalize RT l = R at hs hi n2 n3
  obtain ⟨d, L, b⟩ := R
  dsimp only at n2 n3
  have n4 : ∀ r ∈ L, r.length ≤ 1048576 := fun r hr => by have := n3 r hr; omega
  have he := eqTable_ev d L (by omega) n4
  have hb := mtt_bnd L 1 1048576 n4
  have hp : 0 ≤ mtot_ 1 L := by omega
  have hh := heldTable_ev d L 1 (by omega) n4 (by omega) (by omega) hp
  refine Ev.bind hs (Ev.bind hi (Ev.bind he ?_))
  simp only [if_true]
  refine Ev.bind (markTablek_ev d L 1 (by omega) n4 (by omega) (by omega)) (Ev.bind hh ?_)
  simp only [if_neg (show ¬ mtot_ 1 L < 0 by omega), if_true]
  refine Ev.bind hi (Ev.bind he ?_)
  simp only [if_true]
  refine Ev.bind hh ?_
  simp only [if_neg (show ¬ mtot_ 1 L < 0 by omega), if_true]
  exact Ev.now _


end Go.Proofs.YtknopokgbechlaaDoor.Pure
