/- Proved: the pure half of the law FnExactStandardWord: the printed functions answer true, for every input. No condition. -/
import Derived.Test.YtkmghekffehimaaPFnExactStandardWordx3
import Derived.Test.YtkmghekffehimaaBase
import Derived.Test.YtkmghekffehimaaLists
import Derived.Test.YtkmghekffehimaaRepeat
namespace Go.Proofs.Ytkmghekffehimaa.Pure
open Go.RowKit Go.Proofs.Ytkmghekffehimaa.PFnExactStandardWord Go.Proofs.YtkmghekffehimaaW.PrintWords Go.Proofs.YtkmghekffehimaaW.PrintLast Go.Proofs.YtkmghekffehimaaW.PrintMore Go.Proofs.Ytkmghekffehimaa.Base
set_option linter.unusedVariables false
set_option linter.unusedSimpArgs false

/-! spec.l00In -/
theorem in_eq (a b c : Int) : spec_l00In.f a b c = some (decide (b ≤ a ∧ a ≤ c)) := by
  unfold spec_l00In.f
  by_cases h : b ≤ a
  · rw [if_pos (show a ≥ b from h)]; simp [h]
  · rw [if_neg (show ¬ a ≥ b from h)]; simp [h]

/-! laws.toInt64S -/
theorem to_step (l : List Int) (i : Nat) (hi : i < l.length) : (l.take i ++ List.replicate (l.length - i) 0).set i l[i] = l.take (i + 1) ++ List.replicate (l.length - (i + 1)) 0 := by
  rw [show l.length - i = (l.length - (i + 1)) + 1 by omega, List.replicate_succ, List.set_append, if_neg (by simp; omega), List.length_take, Nat.min_eq_left (by omega), Nat.sub_self, List.set_cons_zero, List.take_succ_eq_append_getElem hi, List.append_assoc]
  rfl
theorem to_l0 (l : List Int) (hl : l.length ≤ 35184372088832) : ∀ (d i : Nat), d + i = l.length → Ev (fun k => laws_toInt64S.l0 k l (l.take i ++ List.replicate (l.length - i) 0) i) l := by
  intro d
  induction d with
  | zero =>
    intro i hd
    apply Ev.succ
    simp only [laws_toInt64S.l0, if_neg (show ¬ (i : Int) < (l.length : Int) by omega)]
    rw [List.take_of_length_le (by omega), show l.length - i = 0 by omega]
    simpa using Ev.now l
  | succ d ih =>
    intro i hd
    have hi : i < l.length := by omega
    apply Ev.succ
    simp only [laws_toInt64S.l0, if_pos (show (i : Int) < (l.length : Int) by omega), if_pos (show 0 ≤ (i : Int) by omega), if_pos (show (i : Int) < ((l.take i ++ List.replicate (l.length - i) (0 : Int)).length : Int) by simp; omega), rd_get hi, w64 (show (-9223372036854775808) ≤ (i : Int) + 1 by omega) (by omega), Int.toNat_natCast, to_step l i hi]
    exact ih (i + 1) (by omega)
theorem toInt64S_ev (l : List Int) (hl : l.length ≤ 35184372088832) : Ev (fun k => laws_toInt64S.f k l) l := by
  simp only [laws_toInt64S.f, if_pos (show 0 ≤ (l.length : Int) by omega), Int.toNat_natCast, if_pos hl]
  have := to_l0 l hl l.length 0 (by omega)
  simpa using this

/-! impl.within -/
theorem within_eq (a b c : Int) : impl_within.f a b c = some (decide (b ≤ a ∧ a ≤ c)) := by
  unfold impl_within.f
  by_cases h : b ≤ a
  · rw [if_pos h]; simp [h]
  · rw [if_neg h]; simp [h]

/-! impl.areWithin -/
theorem aw_l0 (l : List Int) (a b : Int) (hl : l.length ≤ 9223372036854775806) : ∀ (d i : Nat), d + i = l.length → ∃ r : Int, Ev (fun k => slices_IndexFunc_int64_int64_impl_areWithin_1.l0 k l (l.length : Int) i a b) r ∧ (decide (r ≥ 0) = !(l.drop i).all fun n => decide (a ≤ n ∧ n ≤ b)) := by
  intro d
  induction d with
  | zero =>
    intro i hd
    refine ⟨-1, ?_, ?_⟩
    · apply Ev.succ
      simp only [slices_IndexFunc_int64_int64_impl_areWithin_1.l0, if_neg (show ¬ (i : Int) < (l.length : Int) by omega)]
      exact Ev.now _
    · rw [List.drop_of_length_le (by omega)]; rfl
  | succ d ih =>
    intro i hd
    have hi : i < l.length := by omega
    obtain ⟨r, hr, he⟩ := ih (i + 1) (by omega)
    by_cases h : a ≤ l[i] ∧ l[i] ≤ b
    · refine ⟨r, ?_, ?_⟩
      · apply Ev.succ
        simp only [slices_IndexFunc_int64_int64_impl_areWithin_1.l0, if_pos (show (i : Int) < (l.length : Int) by omega), if_pos (show 0 ≤ (i : Int) by omega), rd_get hi, impl_areWithin_1.f, within_eq, decide_eq_true h, Option.bind_some, w64 (show (-9223372036854775808) ≤ (i : Int) + 1 by omega) (by omega)]
        simpa using hr
      · rw [he, List.drop_eq_getElem_cons hi, List.all_cons, decide_eq_true h, Bool.true_and]
    · refine ⟨i, ?_, ?_⟩
      · apply Ev.succ
        simp only [slices_IndexFunc_int64_int64_impl_areWithin_1.l0, if_pos (show (i : Int) < (l.length : Int) by omega), if_pos (show 0 ≤ (i : Int) by omega), rd_get hi, impl_areWithin_1.f, within_eq, decide_eq_false h, Option.bind_some]
        simpa using Ev.now _
      · rw [List.drop_eq_getElem_cons hi, List.all_cons, decide_eq_false h, Bool.false_and]; simp
theorem areWithin_ev (l : List Int) (a b : Int) (hl : l.length ≤ 9223372036854775806) : Ev (fun k => impl_areWithin.f k l a b) (l.all fun n => decide (a ≤ n ∧ n ≤ b)) := by
  obtain ⟨r, hr, he⟩ := aw_l0 l a b hl l.length 0 (by omega)
  unfold impl_areWithin.f
  simp only [slices_ContainsFunc_int64_int64_impl_areWithin_1.f, slices_IndexFunc_int64_int64_impl_areWithin_1.f]
  refine Ev.bind (Ev.bind hr (Ev.now _)) ?_
  refine (Ev.now _).to ?_
  rw [he, List.drop_zero, Bool.not_not]

/-! laws.eqInt64S -/
theorem eq_l0 (a b : List Int) (hl : a.length = b.length) (hm : a.length ≤ 9223372036854775806) : ∀ (d i : Nat), d + i = a.length → Ev (fun k => laws_eqInt64S.l0 k a b i) (decide (a.drop i = b.drop i)) := by
  intro d
  induction d with
  | zero =>
    intro i hd
    apply Ev.succ
    simp only [laws_eqInt64S.l0, if_neg (show ¬ (i : Int) < (a.length : Int) by omega)]
    rw [List.drop_of_length_le (by omega), List.drop_of_length_le (by omega)]
    exact Ev.now _
  | succ d ih =>
    intro i hd
    have hi : i < a.length := by omega
    have hi' : i < b.length := by omega
    apply Ev.succ
    simp only [laws_eqInt64S.l0, if_pos (show (i : Int) < (a.length : Int) by omega), if_pos (show 0 ≤ (i : Int) by omega), if_pos (show (i : Int) < (b.length : Int) by omega), rd_get hi, rd_get hi', w64 (show (-9223372036854775808) ≤ (i : Int) + 1 by omega) (by omega)]
    rw [List.drop_eq_getElem_cons hi, List.drop_eq_getElem_cons hi']
    by_cases h : a[i] = b[i]
    · simp only [if_pos h]
      exact (ih (i + 1) (by omega)).to (by simp only [List.cons.injEq, h, true_and])
    · simp only [if_neg h]
      exact (Ev.now _).to (by simp only [List.cons.injEq, h, false_and, decide_false])
theorem eqInt64S_ev (a b : List Int) (hm : a.length ≤ 9223372036854775806) : Ev (fun k => laws_eqInt64S.f k a b) (decide (a = b)) := by
  unfold laws_eqInt64S.f
  by_cases h : a.length = b.length
  · simp only [if_pos (show (a.length : Int) = (b.length : Int) by omega)]
    simpa using eq_l0 a b h hm a.length 0 (by omega)
  · simp only [if_neg (show ¬ (a.length : Int) = (b.length : Int) by omega)]
    exact (Ev.now _).to (by symm; simp; intro e; exact h (by rw [e]))

/-! the law -/
theorem sw_rd {xs : List Int} {i : Nat} : rd xs (i : Int) = xs.getD i 0 := by
  unfold rd; simp
def swLow (i : Nat) : Int := if i = 0 then 0 else 1
def swOk (l : List Int) (i : Nat) : Bool := decide (swLow i ≤ l.getD i 0 ∧ l.getD i 0 ≤ 120)
abbrev SWB : ByteArray × Bool := ((⟨#[]⟩ : ByteArray), false)
theorem sw_l1 (x0 : List Int) (bs nw : ByteArray) (i v : Nat) (hi : i < x0.length) (hv : x0.getD i 0 = (v : Int)) (hv2 : v ≤ 120) (hb : bs.size ≤ 120) (hn : nw.size ≤ 120) {R : ByteArray × Bool}
    (hR : v * nw.size + bs.size ≤ 120 → Ev (fun k => spec_StandardWord.l0 k x0 nw (repB nw v ++ bs) (wrap64 ((i : Int) + 1))) R) (hF : 120 < v * nw.size + bs.size → R = SWB) :
    ∀ (d c : Nat), d + c = v → Ev (fun k => spec_StandardWord.l1 k x0 bs nw i (repB nw c) c) R := by
  intro d
  induction d with
  | zero =>
    intro c hd
    have hc : c = v := by omega
    subst hc
    have hs := repB_size nw c
    have hm := rep_le hv2 hn
    have ha : (repB nw c ++ bs).size = (repB nw c).size + bs.size := ByteArray.size_append
    apply Ev.succ
    simp only [spec_StandardWord.l1, if_pos (show 0 ≤ (i : Int) by omega), if_pos (show (i : Int) < x0.length by omega), sw_rd, hv, if_neg (show ¬ (c : Int) < (c : Int) by omega), if_pos (show (repB nw c).size + bs.size ≤ 9223372036854775807 by omega)]
    by_cases q : c * nw.size + bs.size ≤ 120
    · simp only [if_neg (show ¬ ((repB nw c ++ bs).size : Int) > 120 by omega)]
      exact hR q
    · simp only [if_pos (show ((repB nw c ++ bs).size : Int) > 120 by omega)]
      rw [hF (by omega)]
      exact Ev.now _
  | succ d ih =>
    intro c hd
    have hs := repB_size nw c
    have hm := rep_le hv2 hn
    have hm2 := rep_le (show c ≤ v by omega) (Nat.le_refl nw.size)
    have ha : (repB nw c ++ bs).size = (repB nw c).size + bs.size := ByteArray.size_append
    apply Ev.succ
    simp only [spec_StandardWord.l1, if_pos (show 0 ≤ (i : Int) by omega), if_pos (show (i : Int) < x0.length by omega), sw_rd, hv, if_pos (show (c : Int) < (v : Int) by omega), if_pos (show (repB nw c).size + bs.size ≤ 9223372036854775807 by omega), if_pos (show (repB nw c).size + nw.size ≤ 9223372036854775807 by omega)]
    by_cases q : (repB nw c).size ≤ 120
    · simp only [if_pos (show ((repB nw c).size : Int) ≤ 120 by omega), repB_succ, inc (show c < v by omega) (by omega)]
      exact ih (c + 1) (by omega)
    · simp only [if_neg (show ¬ ((repB nw c).size : Int) ≤ 120 by omega), if_pos (show ((repB nw c ++ bs).size : Int) > 120 by omega)]
      rw [hF (by omega)]
      exact Ev.now _
theorem sw_step (x0 : List Int) (bs nw : ByteArray) (i : Nat) (hi : i < x0.length) (hb : bs.size ≤ 120) (hn : nw.size ≤ 120) {R : ByteArray × Bool}
    (hbad : swOk x0 i = false → R = SWB)
    (hR : swOk x0 i = true → ∀ v : Nat, x0.getD i 0 = (v : Int) → v * nw.size + bs.size ≤ 120 → Ev (fun k => spec_StandardWord.l0 k x0 nw (repB nw v ++ bs) (wrap64 ((i : Int) + 1))) R)
    (hF : ∀ v : Nat, x0.getD i 0 = (v : Int) → 120 < v * nw.size + bs.size → R = SWB) : Ev (fun k => spec_StandardWord.l0 k x0 bs nw i) R := by
  have hj : Ev (fun k => spec_StandardWord.j1 k x0 bs nw i (swLow i)) R := by
    apply Ev.succ
    simp only [spec_StandardWord.j1, if_pos (show 0 ≤ (i : Int) by omega), if_pos (show (i : Int) < x0.length by omega), sw_rd, in_eq, Option.bind_some]
    cases h : swOk x0 i with
    | false =>
      rw [hbad h]
      unfold swOk at h
      simp only [h, Bool.false_eq_true, if_false]
      exact Ev.now _
    | true =>
      have h2 := h
      unfold swOk at h
      simp only [h, if_true]
      have h3 := of_decide_eq_true h
      have h4 : 0 ≤ swLow i := by unfold swLow; split <;> omega
      obtain ⟨v, hv⟩ : ∃ v : Nat, x0.getD i 0 = (v : Int) := ⟨(x0.getD i 0).toNat, by omega⟩
      have := sw_l1 x0 bs nw i v hi hv (by omega) hb hn (hR h2 v hv) (hF v hv) v 0 (by omega)
      rw [repB_zero] at this
      exact this
  apply Ev.succ
  simp only [spec_StandardWord.l0, if_pos (show (i : Int) < x0.length by omega)]
  by_cases c : i = 0
  · subst c
    simp only [if_pos (show ((0 : Nat) : Int) = 0 by omega)]
    exact hj
  · simp only [if_neg (show ¬ (i : Int) = 0 by omega)]
    rw [show swLow i = 1 by unfold swLow; rw [if_neg c]] at hj
    exact hj
theorem sw_bad (x0 : List Int) (j : Nat) (hj : j < x0.length) (hb0 : swOk x0 j = false) (hl : x0.length ≤ 20) : ∀ (d i : Nat) (bs nw : ByteArray), d + i = j → bs.size ≤ 120 → nw.size ≤ 120 → Ev (fun k => spec_StandardWord.l0 k x0 bs nw i) SWB := by
  intro d
  induction d with
  | zero =>
    intro i bs nw hd hb hn
    have e : i = j := by omega
    subst e
    exact sw_step x0 bs nw i (by omega) hb hn (fun _ => rfl) (fun h => absurd (hb0.symm.trans h) (by decide)) (fun _ _ _ => rfl)
  | succ d ih =>
    intro i bs nw hd hb hn
    refine sw_step x0 bs nw i (by omega) hb hn (fun _ => rfl) (fun _ v hv q => ?_) (fun _ _ _ => rfl)
    rw [inc (show i < x0.length by omega) (by omega)]
    have ha : (repB nw v ++ bs).size = (repB nw v).size + bs.size := ByteArray.size_append
    have hs := repB_size nw v
    exact ih (i + 1) nw (repB nw v ++ bs) (by omega) hn (by omega)
theorem sw_good (x0 : List Int) (hl : x0.length ≤ 20) (hall : ∀ j, j < x0.length → swOk x0 j = true) : ∀ (d i : Nat) (bs nw : ByteArray), d + i = x0.length → bs.size ≤ 120 → nw.size ≤ 120 → ∃ R, Ev (fun k => spec_StandardWord.l0 k x0 bs nw i) R ∧ Ev (fun k => impl_StandardWord.l0 k bs nw x0 (x0.length : Int) i) R := by
  intro d
  induction d with
  | zero =>
    intro i bs nw hd hb hn
    refine ⟨(nw, true), ?_, ?_⟩
    · apply Ev.succ
      simp only [spec_StandardWord.l0, if_neg (show ¬ (i : Int) < x0.length by omega)]
      exact Ev.now _
    · apply Ev.succ
      simp only [impl_StandardWord.l0, if_neg (show ¬ (i : Int) < x0.length by omega)]
      exact Ev.now _
  | succ d ih =>
    intro i bs nw hd hb hn
    have hok := hall i (by omega)
    have hok2 := of_decide_eq_true hok
    have h4 : 0 ≤ swLow i := by unfold swLow; split <;> omega
    obtain ⟨v, hv⟩ : ∃ v : Nat, x0.getD i 0 = (v : Int) := ⟨(x0.getD i 0).toNat, by omega⟩
    have ha : (repB nw v ++ bs).size = (repB nw v).size + bs.size := ByteArray.size_append
    have hs := repB_size nw v
    have hm := rep_le (show v ≤ 120 by omega) hn
    have hm2 := Nat.mul_comm v nw.size
    have hrep : strings_Repeat.f nw (v : Int) = some (repB nw v) := by
      unfold strings_Repeat.f
      rw [Int.toNat_natCast, if_pos ⟨by omega, by omega, by omega⟩]
      rfl
    by_cases q : v * nw.size + bs.size ≤ 120
    · obtain ⟨R, r1, r2⟩ := ih (i + 1) nw (repB nw v ++ bs) (by omega) hn (by omega)
      refine ⟨R, ?_, ?_⟩
      · refine sw_step x0 bs nw i (by omega) hb hn (fun h => absurd (hok.symm.trans h) (by decide)) (fun _ u hu _ => ?_) (fun u hu hq => ?_)
        · have e : u = v := by omega
          subst e
          rw [inc (show i < x0.length by omega) (by omega)]
          exact r1
        · have e : u = v := by omega
          subst e
          omega
      · apply Ev.succ
        simp only [impl_StandardWord.l0, if_pos (show (i : Int) < x0.length by omega), if_pos (show 0 ≤ (i : Int) by omega), sw_rd, hv, hrep, Option.bind_some, if_pos (show (repB nw v).size + bs.size ≤ 9223372036854775807 by omega), if_neg (show ¬ ((repB nw v ++ bs).size : Int) > 120 by omega), inc (show i < x0.length by omega) (by omega)]
        exact r2
    · refine ⟨SWB, ?_, ?_⟩
      · refine sw_step x0 bs nw i (by omega) hb hn (fun _ => rfl) (fun _ u hu hq => ?_) (fun _ _ _ => rfl)
        have e : u = v := by omega
        subst e
        omega
      · apply Ev.succ
        simp only [impl_StandardWord.l0, if_pos (show (i : Int) < x0.length by omega), if_pos (show 0 ≤ (i : Int) by omega), sw_rd, hv, hrep, Option.bind_some, if_pos (show (repB nw v).size + bs.size ≤ 9223372036854775807 by omega), if_pos (show ((repB nw v ++ bs).size : Int) > 120 by omega)]
        exact Ev.now _
/-- The numbers are terms. -/
def TMS (l : List Int) : Bool := (List.range l.length).all (swOk l)
theorem tms_ev (l : List Int) (hl : l.length ≤ 20) : Ev (fun k => impl_areTerms.f k l 120) (TMS l) := by
  unfold impl_areTerms.f
  cases l with
  | nil =>
    simp only [List.length_nil]
    exact Ev.now _
  | cons x l =>
    have e : TMS (x :: l) = (decide (0 ≤ x ∧ x ≤ 120) && l.all fun n => decide (1 ≤ n ∧ n ≤ 120)) := by
      unfold TMS
      rw [List.length_cons, List.range_succ_eq_map, List.all_cons, List.all_map]
      congr 1
      rw [← all_range l (fun n => decide (1 ≤ n ∧ n ≤ 120)) 0]
      rfl
    rw [e]
    simp only [List.length_cons] at hl
    simp only [List.length_cons, if_neg (show ¬ ((l.length + 1 : Nat) : Int) > 20 by omega), if_pos (show ((l.length + 1 : Nat) : Int) > 0 by omega), if_pos (show 0 < ((l.length + 1 : Nat) : Int) by omega), show rd (x :: l) 0 = x from rfl, within_eq, Option.bind_some, if_neg (show ¬ ((l.length + 1 : Nat) : Int) = 0 by omega), if_pos (show 1 ≤ ((l.length + 1 : Nat) : Int) by omega), List.drop_succ_cons, List.drop_zero]
    by_cases c : 0 ≤ x ∧ x ≤ 120
    · simp only [decide_eq_true c, if_true, Bool.true_and]
      exact Ev.bind (areWithin_ev l 1 120 (by omega)) (Ev.now _)
    · simp only [decide_eq_false c, Bool.false_eq_true, if_false, Bool.false_and]
      exact Ev.now _
theorem sw_both (l : List Int) : ∃ R, Ev (fun k => spec_StandardWord.f k l) R ∧ Ev (fun k => impl_StandardWord.f k l) R := by
  unfold spec_StandardWord.f impl_StandardWord.f
  by_cases hl : (l.length : Int) > 20
  · refine ⟨SWB, ?_, ?_⟩
    · simp only [if_pos hl]
      exact Ev.now _
    · refine Ev.bind (show Ev (fun k => impl_areTerms.f k l 120) false from ?_) ?_
      · unfold impl_areTerms.f
        simp only [if_pos hl]
        exact Ev.now _
      · simp only [Bool.false_eq_true, if_false]
        exact Ev.now _
  · have hl2 : l.length ≤ 20 := by omega
    simp only [if_neg hl]
    have ht := tms_ev l hl2
    cases h : TMS l with
    | true =>
      rw [h] at ht
      obtain ⟨R, r1, r2⟩ := sw_good l hl2 (fun j hj => List.all_eq_true.1 h j (List.mem_range.2 hj)) l.length 0 (⟨#[98]⟩ : ByteArray) (⟨#[97]⟩ : ByteArray) (by omega) (by decide) (by decide)
      refine ⟨R, r1, Ev.bind ht ?_⟩
      simp only [if_true]
      exact r2
    | false =>
      rw [h] at ht
      obtain ⟨j, hj, hb⟩ : ∃ j, j < l.length ∧ swOk l j = false := by
        unfold TMS at h
        rw [List.all_eq_false] at h
        obtain ⟨j, hj, hb⟩ := h
        exact ⟨j, List.mem_range.1 hj, by simpa using hb⟩
      refine ⟨SWB, sw_bad l j hj hb hl2 j 0 (⟨#[98]⟩ : ByteArray) (⟨#[97]⟩ : ByteArray) (by omega) (by decide) (by decide), Ev.bind ht ?_⟩
      simp only [Bool.false_eq_true, if_false]
      exact Ev.now _
theorem FnExactStandardWord : laws_FnExactStandardWord.Pure := by
  intro l _ _ _
  apply Ev.rounds
  unfold laws_FnExactStandardWord.f
  by_cases hl : (l.length : Int) > 1048576
  · simp only [if_pos hl]
    exact Ev.now _
  · simp only [if_neg hl]
    have ht := toInt64S_ev l (by omega)
    obtain ⟨R, r1, r2⟩ := sw_both l
    refine Ev.bind ht (Ev.bind r1 (Ev.bind ht (Ev.bind r2 ?_)))
    simp only [if_true, bne_self_eq_false]
    apply Ev.succ
    simp only [laws_FnExactStandardWord.j0, Bool.false_eq_true, if_false]
    refine Ev.bind ht (Ev.bind (eqInt64S_ev l l (by omega)) ?_)
    simp only [decide_true, if_true]
    exact Ev.now _


end Go.Proofs.Ytkmghekffehimaa.Pure
