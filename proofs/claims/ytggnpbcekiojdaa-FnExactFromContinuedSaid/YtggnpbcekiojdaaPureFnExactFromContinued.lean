/- Proved: the pure half of the law FnExactFromContinued: the printed functions answer true, for every input. No condition. -/
import Derived.Test.YtggnpbcekiojdaaPFnExactFromContinuedx3
import Derived.Test.YtggnpbcekiojdaaBase
import Derived.Test.YtggnpbcekiojdaaLists
namespace Go.Proofs.Ytggnpbcekiojdaa.Pure
open Go.RowKit Go.Proofs.Ytggnpbcekiojdaa.PFnExactFromContinued Go.Proofs.YtggnpbcekiojdaaW.PrintWords Go.Proofs.YtggnpbcekiojdaaW.PrintLast Go.Proofs.YtggnpbcekiojdaaW.PrintMore Go.Proofs.Ytggnpbcekiojdaa.Base
set_option linter.unusedVariables false
set_option linter.unusedSimpArgs false

/-! laws.eqInt64S -/
theorem eq_l0 (a b : List Int) (hl : a.length = b.length) (hm : a.length ≤ 9223372036854775806) : ∀ (d i : Nat), d + i = a.length → Ev (fun k => laws_eqInt64S.l0 k a b i) (decide (a.drop i = b.drop i)) := by
  intro d
  induction d with
  | zero =>
    intro i hd
    apply Ev.succ
    simp only [laws_eqInt64S.l0, if_neg (show ¬ (i : Int) < (a.length : Int) by omega)]
    rw [List.drop_of_length_le (by omega), List.drop_of_length_le (by omega)]
    exact Ev.now _
  | succ d ih =>
    intro i hd
    have hi : i < a.length := by omega
    have hi' : i < b.length := by omega
    apply Ev.succ
    simp only [laws_eqInt64S.l0, if_pos (show (i : Int) < (a.length : Int) by omega), if_pos (show 0 ≤ (i : Int) by omega), if_pos (show (i : Int) < (b.length : Int) by omega), rd_get hi, rd_get hi', w64 (show (-9223372036854775808) ≤ (i : Int) + 1 by omega) (by omega)]
    rw [List.drop_eq_getElem_cons hi, List.drop_eq_getElem_cons hi']
    by_cases h : a[i] = b[i]
    · simp only [if_pos h]
      exact (ih (i + 1) (by omega)).to (by simp only [List.cons.injEq, h, true_and])
    · simp only [if_neg h]
      exact (Ev.now _).to (by simp only [List.cons.injEq, h, false_and, decide_false])
theorem eqInt64S_ev (a b : List Int) (hm : a.length ≤ 9223372036854775806) : Ev (fun k => laws_eqInt64S.f k a b) (decide (a = b)) := by
  unfold laws_eqInt64S.f
  by_cases h : a.length = b.length
  · simp only [if_pos (show (a.length : Int) = (b.length : Int) by omega)]
    simpa using eq_l0 a b h hm a.length 0 (by omega)
  · simp only [if_neg (show ¬ (a.length : Int) = (b.length : Int) by omega)]
    exact (Ev.now _).to (by symm; simp; intro e; exact h (by rw [e]))

/-! laws.toInt64S -/
theorem to_step (l : List Int) (i : Nat) (hi : i < l.length) : (l.take i ++ List.replicate (l.length - i) 0).set i l[i] = l.take (i + 1) ++ List.replicate (l.length - (i + 1)) 0 := by
  rw [show l.length - i = (l.length - (i + 1)) + 1 by omega, List.replicate_succ, List.set_append, if_neg (by simp; omega), List.length_take, Nat.min_eq_left (by omega), Nat.sub_self, List.set_cons_zero, List.take_succ_eq_append_getElem hi, List.append_assoc]
  rfl
theorem to_l0 (l : List Int) (hl : l.length ≤ 35184372088832) : ∀ (d i : Nat), d + i = l.length → Ev (fun k => laws_toInt64S.l0 k l (l.take i ++ List.replicate (l.length - i) 0) i) l := by
  intro d
  induction d with
  | zero =>
    intro i hd
    apply Ev.succ
    simp only [laws_toInt64S.l0, if_neg (show ¬ (i : Int) < (l.length : Int) by omega)]
    rw [List.take_of_length_le (by omega), show l.length - i = 0 by omega]
    simpa using Ev.now l
  | succ d ih =>
    intro i hd
    have hi : i < l.length := by omega
    apply Ev.succ
    simp only [laws_toInt64S.l0, if_pos (show (i : Int) < (l.length : Int) by omega), if_pos (show 0 ≤ (i : Int) by omega), if_pos (show (i : Int) < ((l.take i ++ List.replicate (l.length - i) (0 : Int)).length : Int) by simp; omega), rd_get hi, w64 (show (-9223372036854775808) ≤ (i : Int) + 1 by omega) (by omega), Int.toNat_natCast, to_step l i hi]
    exact ih (i + 1) (by omega)
theorem toInt64S_ev (l : List Int) (hl : l.length ≤ 35184372088832) : Ev (fun k => laws_toInt64S.f k l) l := by
  simp only [laws_toInt64S.f, if_pos (show 0 ≤ (l.length : Int) by omega), Int.toNat_natCast, if_pos hl]
  have := to_l0 l hl l.length 0 (by omega)
  simpa using this

/-! spec.l00In -/
theorem in_eq (a b c : Int) : spec_l00In.f a b c = some (decide (b ≤ a ∧ a ≤ c)) := by
  unfold spec_l00In.f
  by_cases h : b ≤ a
  · rw [if_pos (show a ≥ b from h)]; simp [h]
  · rw [if_neg (show ¬ a ≥ b from h)]; simp [h]

/-! impl.within -/
theorem within_eq (a b c : Int) : impl_within.f a b c = some (decide (b ≤ a ∧ a ≤ c)) := by
  unfold impl_within.f
  by_cases h : b ≤ a
  · rw [if_pos h]; simp [h]
  · rw [if_neg h]; simp [h]

/-! impl.areWithin -/
theorem aw_l0 (l : List Int) (a b : Int) (hl : l.length ≤ 9223372036854775806) : ∀ (d i : Nat), d + i = l.length → ∃ r : Int, Ev (fun k => slices_IndexFunc_int64_int64_impl_areWithin_1.l0 k l (l.length : Int) i a b) r ∧ (decide (r ≥ 0) = !(l.drop i).all fun n => decide (a ≤ n ∧ n ≤ b)) := by
  intro d
  induction d with
  | zero =>
    intro i hd
    refine ⟨-1, ?_, ?_⟩
    · apply Ev.succ
      simp only [slices_IndexFunc_int64_int64_impl_areWithin_1.l0, if_neg (show ¬ (i : Int) < (l.length : Int) by omega)]
      exact Ev.now _
    · rw [List.drop_of_length_le (by omega)]; rfl
  | succ d ih =>
    intro i hd
    have hi : i < l.length := by omega
    obtain ⟨r, hr, he⟩ := ih (i + 1) (by omega)
    by_cases h : a ≤ l[i] ∧ l[i] ≤ b
    · refine ⟨r, ?_, ?_⟩
      · apply Ev.succ
        simp only [slices_IndexFunc_int64_int64_impl_areWithin_1.l0, if_pos (show (i : Int) < (l.length : Int) by omega), if_pos (show 0 ≤ (i : Int) by omega), rd_get hi, impl_areWithin_1.f, within_eq, decide_eq_true h, Option.bind_some, w64 (show (-9223372036854775808) ≤ (i : Int) + 1 by omega) (by omega)]
        simpa using hr
      · rw [he, List.drop_eq_getElem_cons hi, List.all_cons, decide_eq_true h, Bool.true_and]
    · refine ⟨i, ?_, ?_⟩
      · apply Ev.succ
        simp only [slices_IndexFunc_int64_int64_impl_areWithin_1.l0, if_pos (show (i : Int) < (l.length : Int) by omega), if_pos (show 0 ≤ (i : Int) by omega), rd_get hi, impl_areWithin_1.f, within_eq, decide_eq_false h, Option.bind_some]
        simpa using Ev.now _
      · rw [List.drop_eq_getElem_cons hi, List.all_cons, decide_eq_false h, Bool.false_and]; simp
theorem areWithin_ev (l : List Int) (a b : Int) (hl : l.length ≤ 9223372036854775806) : Ev (fun k => impl_areWithin.f k l a b) (l.all fun n => decide (a ≤ n ∧ n ≤ b)) := by
  obtain ⟨r, hr, he⟩ := aw_l0 l a b hl l.length 0 (by omega)
  unfold impl_areWithin.f
  simp only [slices_ContainsFunc_int64_int64_impl_areWithin_1.f, slices_IndexFunc_int64_int64_impl_areWithin_1.f]
  refine Ev.bind (Ev.bind hr (Ev.now _)) ?_
  refine (Ev.now _).to ?_
  rw [he, List.drop_zero, Bool.not_not]

/-! the law -/
/-- Continuants, from the last term on. -/
def bk : List Int → Int × Int
  | [] => (1, 0)
  | x :: xs => (x * (bk xs).1 + (bk xs).2, (bk xs).1)
theorem bk_pos : ∀ (l : List Int), (∀ x ∈ l, 1 ≤ x) → 1 ≤ (bk l).1 ∧ 0 ≤ (bk l).2
  | [], _ => ⟨Int.le_refl _, Int.le_refl _⟩
  | x :: l, h => by
    have h1 := bk_pos l (fun y hy => h y (List.mem_cons_of_mem _ hy))
    have h2 := h x List.mem_cons_self
    have h3 : 1 * 1 ≤ x * (bk l).1 := Int.mul_le_mul h2 h1.1 (by omega) (by omega)
    simp only [bk]
    omega
theorem bk_ge : ∀ (l : List Int) (m : Nat), (∀ x ∈ l, 1 ≤ x) → (bk (l.drop m)).1 ≤ (bk l).1
  | l, 0, _ => Int.le_refl _
  | [], m + 1, _ => Int.le_refl _
  | x :: l, m + 1, h => by
    have h0 : ∀ y ∈ l, 1 ≤ y := fun y hy => h y (List.mem_cons_of_mem _ hy)
    have h1 := bk_pos l h0
    have h2 := h x List.mem_cons_self
    have h3 : 1 * (bk l).1 ≤ x * (bk l).1 := Int.mul_le_mul_of_nonneg_right h2 (by omega)
    have h4 := bk_ge l m h0
    simp only [List.drop_succ_cons, bk]
    omega
/-- What comes of a list with its terms in their bounds. -/
def bkRes (a b : Int) : Int × Int × Bool := if a > 1000000000 ∨ b > 1000000000 then (0, 0, false) else (a, b, true)
theorem frd {xs : List Int} {i : Nat} : rd xs (i : Int) = xs.getD i 0 := by
  unfold rd; simp
theorem mulB {x a : Int} (hx : 0 ≤ x) (hx2 : x ≤ 1000000000) (ha : 0 ≤ a) (ha2 : a ≤ 1000000000) : 0 ≤ x * a ∧ x * a ≤ 1000000000000000000 :=
  ⟨Int.mul_nonneg hx ha, Int.mul_le_mul hx2 ha2 ha (by omega)⟩
theorem fc_fwd (l : List Int) (hl : l.length ≤ 20) : ∀ (xs : List Int) (i : Nat) (a b c d : Int), l.drop i = xs → (∀ x ∈ xs, 0 ≤ x ∧ x ≤ 1000000000) → (∀ x ∈ xs.tail, 1 ≤ x) → (0 ≤ a ∧ a ≤ 1000000000) → (0 ≤ b ∧ b ≤ 1000000000) → (0 ≤ c ∧ c ≤ 1000000000) → (0 ≤ d ∧ d ≤ 1000000000) → Ev (fun k => impl_FromContinued.l0 k a b c d l (l.length : Int) i) (bkRes (a * (bk xs).1 + c * (bk xs).2) (b * (bk xs).1 + d * (bk xs).2)) := by
  intro xs
  induction xs with
  | nil =>
    intro i a b c d hd _ _ ha hb hc hdd
    have hi : ¬ i < l.length := by
      intro h
      have := congrArg List.length hd
      simp at this
      omega
    apply Ev.succ
    simp only [impl_FromContinued.l0, if_neg (show ¬ (i : Int) < l.length by omega)]
    refine (Ev.now _).to ?_
    simp only [bk, bkRes, Int.mul_one, Int.mul_zero, Int.add_zero]
    rw [if_neg (by omega)]
  | cons x xs ih =>
    intro i a b c d hd h0 h1 ha hb hc hdd
    have hi : i < l.length := by
      have := congrArg List.length hd
      simp at this
      omega
    have hx : l.getD i 0 = x := by
      rw [List.drop_eq_getElem_cons hi] at hd
      simp only [List.cons.injEq] at hd
      simp [List.getD_eq_getElem?_getD, hi, hd.1]
    have hd2 : l.drop (i + 1) = xs := by
      rw [List.drop_eq_getElem_cons hi] at hd
      simp only [List.cons.injEq] at hd
      exact hd.2
    have hxb := h0 x List.mem_cons_self
    have p1 := mulB hxb.1 hxb.2 ha.1 ha.2
    have p2 := mulB hxb.1 hxb.2 hb.1 hb.2
    have hpos := bk_pos xs (by simpa using h1)
    have e1 : a * (bk (x :: xs)).1 + c * (bk (x :: xs)).2 = (x * a + c) * (bk xs).1 + a * (bk xs).2 := by
      simp only [bk, Int.mul_add, Int.add_mul, ← Int.mul_assoc, Int.mul_comm a x]; omega
    have e2 : b * (bk (x :: xs)).1 + d * (bk (x :: xs)).2 = (x * b + d) * (bk xs).1 + b * (bk xs).2 := by
      simp only [bk, Int.mul_add, Int.add_mul, ← Int.mul_assoc, Int.mul_comm b x]; omega
    have g1 : (x * a + c) * 1 ≤ (x * a + c) * (bk xs).1 := Int.mul_le_mul_of_nonneg_left hpos.1 (by omega)
    have g2 : (x * b + d) * 1 ≤ (x * b + d) * (bk xs).1 := Int.mul_le_mul_of_nonneg_left hpos.1 (by omega)
    have g3 : 0 ≤ a * (bk xs).2 := Int.mul_nonneg ha.1 hpos.2
    have g4 : 0 ≤ b * (bk xs).2 := Int.mul_nonneg hb.1 hpos.2
    apply Ev.succ
    simp only [impl_FromContinued.l0, if_pos (show (i : Int) < l.length by omega), if_pos (show 0 ≤ (i : Int) by omega), frd, hx, w64 (show (-9223372036854775808) ≤ x * a by omega) (by omega), w64 (show (-9223372036854775808) ≤ x * b by omega) (by omega), w64 (show (-9223372036854775808) ≤ x * a + c by omega) (by omega), w64 (show (-9223372036854775808) ≤ x * b + d by omega) (by omega), inc hi (by omega), e1, e2]
    by_cases c1 : x * a + c > 1000000000
    · simp only [if_pos c1]
      refine (Ev.now _).to ?_
      unfold bkRes
      rw [if_pos (by omega)]
    · by_cases c2 : x * b + d > 1000000000
      · simp only [if_neg c1, if_pos c2]
        refine (Ev.now _).to ?_
        unfold bkRes
        rw [if_pos (by omega)]
      · simp only [if_neg c1, if_neg c2]
        exact ih (i + 1) _ _ _ _ hd2 (fun y hy => h0 y (List.mem_cons_of_mem _ hy)) (fun y hy => h1 y (by simpa using List.mem_of_mem_tail hy)) ⟨by omega, by omega⟩ ⟨by omega, by omega⟩ ha hb
theorem bk_drop (l : List Int) (i : Nat) (h : i < l.length) : bk (l.drop i) = (l.getD i 0 * (bk (l.drop (i + 1))).1 + (bk (l.drop (i + 1))).2, (bk (l.drop (i + 1))).1) := by
  rw [List.drop_eq_getElem_cons h]
  simp [bk, List.getD_eq_getElem?_getD, h]
theorem fc_bwd (l : List Int) (hl : l.length ≤ 20) (h0 : ∀ x ∈ l, 0 ≤ x ∧ x ≤ 1000000000) (h1 : ∀ x ∈ l.drop 1, 1 ≤ x) : ∀ (i : Nat), i < l.length → (bk (l.drop i)).1 ≤ 1000000000 ∨ i = 0 → (bk (l.drop i)).2 ≤ 1000000000 → 0 ≤ (bk (l.drop i)).1 → Ev (fun k => spec_FromContinued.l1 k l (bk (l.drop i)).1 (bk (l.drop i)).2 ((i : Int) - 1)) (bkRes (bk l).1 (bk l).2) := by
  intro i
  induction i with
  | zero =>
    intro hi _ hb _
    rw [List.drop_zero] at hb ⊢
    apply Ev.succ
    simp only [spec_FromContinued.l1, if_neg (show ¬ (((0 : Nat) : Int) - 1) ≥ 0 by omega)]
    unfold bkRes
    by_cases c : (bk l).1 > 1000000000
    · simp only [if_pos c, if_pos (Or.inl c : (bk l).1 > 1000000000 ∨ (bk l).2 > 1000000000)]
      exact Ev.now _
    · simp only [if_neg c, if_neg (show ¬ ((bk l).1 > 1000000000 ∨ (bk l).2 > 1000000000) by omega)]
      exact Ev.now _
  | succ i ih =>
    intro hi ha hb hn
    have hi' : i < l.length := by omega
    have ha' : (bk (l.drop (i + 1))).1 ≤ 1000000000 := by omega
    have hx : 0 ≤ l.getD i 0 ∧ l.getD i 0 ≤ 1000000000 := h0 _ (by simp [List.getD_eq_getElem?_getD, hi'])
    have hq : 0 ≤ (bk (l.drop (i + 1))).2 := by
      refine (bk_pos (l.drop (i + 1)) (fun x hx => h1 x ?_)).2
      rw [show i + 1 = 1 + i by omega, ← List.drop_drop] at hx
      exact List.mem_of_mem_drop hx
    have p1 := mulB hx.1 hx.2 hn ha'
    have e := bk_drop l i hi'
    have ih' := ih hi'
    rw [e] at ih'
    simp only [] at ih'
    apply Ev.succ
    simp only [spec_FromContinued.l1, show ((i + 1 : Nat) : Int) - 1 = (i : Int) by omega, if_pos (show (i : Int) ≥ 0 by omega), if_pos (show 0 ≤ (i : Int) by omega), if_pos (show (i : Int) < l.length by omega), frd, w64 (show (-9223372036854775808) ≤ l.getD i 0 * (bk (l.drop (i + 1))).1 by omega) (by omega), w64 (show (-9223372036854775808) ≤ l.getD i 0 * (bk (l.drop (i + 1))).1 + (bk (l.drop (i + 1))).2 by omega) (by omega), w64 (show (-9223372036854775808) ≤ (i : Int) - 1 by omega) (by omega), if_neg (show ¬ (bk (l.drop (i + 1))).1 > 1000000000 by omega)]
    by_cases c : l.getD i 0 * (bk (l.drop (i + 1))).1 + (bk (l.drop (i + 1))).2 > 1000000000
    · by_cases z : i = 0
      · subst z
        simp only [if_pos c, if_neg (show ¬ (((0 : Nat) : Int) > 0) by omega)]
        exact ih' (.inr rfl) ha' (by omega)
      · simp only [if_pos c, if_pos (show (i : Int) > 0 by omega)]
        refine (Ev.now _).to ?_
        have g := bk_ge (l.drop 1) (i - 1) h1
        rw [List.drop_drop, show 1 + (i - 1) = i by omega, e] at g
        have e0 := bk_drop l 0 (by omega)
        rw [List.drop_zero] at e0
        unfold bkRes
        rw [if_pos (by rw [e0]; exact .inr (by show (bk (l.drop 1)).1 > 1000000000; exact Int.lt_of_lt_of_le c g))]
    · simp only [if_neg c]
      exact ih' (.inl (by omega)) ha' (by omega)
/-- The terms lie in their bounds. -/
def TM (l : List Int) : Bool := decide (0 ≤ l.headD 0 ∧ l.headD 0 ≤ 1000000000) && (l.drop 1).all fun x => decide (1 ≤ x ∧ x ≤ 1000000000)
def tmp (l : List Int) (i : Nat) : Bool := if i = 0 then decide (0 ≤ l.getD i 0 ∧ l.getD i 0 ≤ 1000000000) else decide (1 ≤ l.getD i 0 ∧ l.getD i 0 ≤ 1000000000)
theorem tm_range (l : List Int) (h : 1 ≤ l.length) : (List.range l.length).all (tmp l) = TM l := by
  cases l with
  | nil => simp at h
  | cons x xs =>
    rw [List.length_cons, List.range_succ_eq_map, List.all_cons, List.all_map, TM, List.drop_one, List.tail_cons, ← all_range xs _ 0]
    rfl
theorem tm_facts {l : List Int} (h : TM l = true) (hn : 1 ≤ l.length) : (∀ x ∈ l, 0 ≤ x ∧ x ≤ 1000000000) ∧ (∀ x ∈ l.drop 1, 1 ≤ x) := by
  cases l with
  | nil => simp at hn
  | cons y xs =>
    simp only [TM, List.headD_cons, List.drop_one, List.tail_cons, Bool.and_eq_true, List.all_eq_true, decide_eq_true_iff] at h
    refine ⟨fun x hx => ?_, fun x hx => (h.2 x (by simpa using hx)).1⟩
    rcases List.mem_cons.1 hx with rfl | hx
    · exact of_decide_eq_true h.1
    · have := h.2 x hx; omega
theorem loopR {β : Type} (n : Nat) (p : Nat → Bool) (L : Nat → Nat → Option β) {r bad : β} (hend : (List.range n).all p = true → Ev (fun k => L k n) r)
    (hno : ∀ i, i < n → p i = false → Ev (fun k => L k i) bad) (hyes : ∀ i, i < n → p i = true → ∀ s, Ev (fun k => L k (i + 1)) s → Ev (fun k => L k i) s) :
    Ev (fun k => L k 0) (if (List.range n).all p then r else bad) := by
  cases h : (List.range n).all p with
  | true =>
    have key : ∀ d i, d + i = n → Ev (fun k => L k i) r := by
      intro d
      induction d with
      | zero => intro i e; have e : i = n := by omega
                subst e; exact hend h
      | succ d ih =>
        intro i e
        exact hyes i (by omega) (List.all_eq_true.1 h i (List.mem_range.2 (by omega))) _ (ih (i + 1) (by omega))
    exact (key n 0 (by omega)).to (by simp)
  | false =>
    have key : ∀ d i, d + i = n → ((List.range n).drop i).all p = false → Ev (fun k => L k i) bad := by
      intro d
      induction d with
      | zero =>
        intro i e ha
        rw [List.drop_of_length_le (by simp; omega)] at ha
        cases ha
      | succ d ih =>
        intro i e ha
        have hi : i < (List.range n).length := by simp; omega
        rw [List.drop_eq_getElem_cons hi, List.all_cons, List.getElem_range] at ha
        cases hp : p i with
        | true => exact hyes i (by omega) hp _ (ih (i + 1) (by omega) (by simpa [hp] using ha))
        | false => exact hno i (by omega) hp
    exact (key n 0 (by omega) (by simpa using h)).to (by simp)
def FC (l : List Int) : Int × Int × Bool := if 1 ≤ l.length ∧ l.length ≤ 20 ∧ ¬ (1 < l.length ∧ l.getD (l.length - 1) 0 = 1) then (if TM l then bkRes (bk l).1 (bk l).2 else (0, 0, false)) else (0, 0, false)
theorem fc_spec0 (l : List Int) (hl : l.length ≤ 20) (hn : 1 ≤ l.length) : Ev (fun k => spec_FromContinued.l0 k l (l.length : Int) 0) (if TM l then bkRes (bk l).1 (bk l).2 else (0, 0, false)) := by
  rw [← tm_range l hn]
  refine loopR l.length (tmp l) (fun k i => spec_FromContinued.l0 k l (l.length : Int) i) ?_ ?_ ?_
  · intro h
    rw [tm_range l hn] at h
    obtain ⟨f1, f2⟩ := tm_facts h hn
    apply Ev.succ
    have e : ((l.length : Int) - 1) = ((l.length - 1 : Nat) : Int) := by omega
    have ed : l.drop (l.length - 1 + 1) = [] := List.drop_of_length_le (by omega)
    have eb := bk_drop l (l.length - 1) (by omega)
    rw [ed] at eb
    have hb := fc_bwd l hl f1 f2 (l.length - 1) (by omega)
    rw [eb] at hb
    have hx : 0 ≤ l.getD (l.length - 1) 0 ∧ l.getD (l.length - 1) 0 ≤ 1000000000 := f1 _ (by simp [List.getD_eq_getElem?_getD, show l.length - 1 < l.length by omega])
    simp only [bk, Int.mul_one, Int.add_zero] at hb
    simp only [spec_FromContinued.l0, if_neg (show ¬ (l.length : Int) < l.length by omega), w64 (show (-9223372036854775808) ≤ (l.length : Int) - 1 by omega) (by omega), w64 (show (-9223372036854775808) ≤ (l.length : Int) - 2 by omega) (by omega), if_pos (show 0 ≤ (l.length : Int) - 1 by omega), if_pos (show (l.length : Int) - 1 < l.length by omega)]
    rw [e, frd]
    have hb' := hb (.inl hx.2) (by omega) hx.1
    rw [show ((l.length - 1 : Nat) : Int) - 1 = (l.length : Int) - 2 by omega] at hb'
    exact hb'
  · intro i hi hp
    apply Ev.succ
    by_cases z : i = 0
    · subst z
      have hp' : decide (0 ≤ l.getD 0 0 ∧ l.getD 0 0 ≤ 1000000000) = false := hp
      simp only [spec_FromContinued.l0, if_pos (show ((0 : Nat) : Int) < l.length by omega), if_pos (show ((0 : Nat) : Int) = 0 by omega), if_pos (show 0 ≤ ((0 : Nat) : Int) by omega), frd, in_eq, Option.bind_some, hp', Bool.false_eq_true, if_false]
      exact Ev.now _
    · have hp' : decide (1 ≤ l.getD i 0 ∧ l.getD i 0 ≤ 1000000000) = false := by simpa only [tmp, if_neg z] using hp
      simp only [spec_FromContinued.l0, if_pos (show (i : Int) < l.length by omega), if_neg (show ¬ (i : Int) = 0 by omega), if_pos (show 0 ≤ (i : Int) by omega), frd, in_eq, Option.bind_some, hp', Bool.false_eq_true, if_false]
      exact Ev.now _
  · intro i hi hp s hs
    apply Ev.succ
    by_cases z : i = 0
    · subst z
      have hp' : decide (0 ≤ l.getD 0 0 ∧ l.getD 0 0 ≤ 1000000000) = true := hp
      simp only [spec_FromContinued.l0, if_pos (show ((0 : Nat) : Int) < l.length by omega), if_pos (show ((0 : Nat) : Int) = 0 by omega), if_pos (show 0 ≤ ((0 : Nat) : Int) by omega), frd, in_eq, Option.bind_some, hp', if_true, inc hi (by omega)]
      exact hs
    · have hp' : decide (1 ≤ l.getD i 0 ∧ l.getD i 0 ≤ 1000000000) = true := by simpa only [tmp, if_neg z] using hp
      simp only [spec_FromContinued.l0, if_pos (show (i : Int) < l.length by omega), if_neg (show ¬ (i : Int) = 0 by omega), if_pos (show 0 ≤ (i : Int) by omega), frd, in_eq, Option.bind_some, hp', if_true, inc hi (by omega)]
      exact hs
theorem lastrd (l : List Int) (h : 1 ≤ l.length) : rd l ((l.length : Int) - 1) = l.getD (l.length - 1) 0 := by
  rw [show (l.length : Int) - 1 = ((l.length - 1 : Nat) : Int) by omega, frd]
theorem fc_spec (l : List Int) (hm : l.length ≤ 1048576) : Ev (fun k => spec_FromContinued.f k l) (FC l) := by
  unfold spec_FromContinued.f FC
  by_cases h1 : l.length < 1
  · simp only [if_pos (show (l.length : Int) < 1 by omega), if_neg (show ¬ (1 ≤ l.length ∧ l.length ≤ 20 ∧ ¬ (1 < l.length ∧ l.getD (l.length - 1) 0 = 1)) by omega)]
    apply Ev.succ
    simp only [spec_FromContinued.j0, if_true]
    exact Ev.now _
  · by_cases h2 : l.length > 20
    · simp only [if_neg (show ¬ (l.length : Int) < 1 by omega), if_pos (show (l.length : Int) > 20 by omega), if_neg (show ¬ (1 ≤ l.length ∧ l.length ≤ 20 ∧ ¬ (1 < l.length ∧ l.getD (l.length - 1) 0 = 1)) by omega)]
      apply Ev.succ
      simp only [spec_FromContinued.j0, if_true]
      exact Ev.now _
    · simp only [if_neg (show ¬ (l.length : Int) < 1 by omega), if_neg (show ¬ (l.length : Int) > 20 by omega)]
      by_cases h3 : l.length > 1
      · simp only [if_pos (show (l.length : Int) > 1 by omega), w64 (show (-9223372036854775808) ≤ (l.length : Int) - 1 by omega) (by omega), if_pos (show 0 ≤ (l.length : Int) - 1 by omega), if_pos (show (l.length : Int) - 1 < l.length by omega), lastrd l (by omega)]
        by_cases h4 : l.getD (l.length - 1) 0 = 1
        · rw [if_neg (fun h => h.2.2 ⟨by omega, h4⟩)]
          apply Ev.succ
          simp only [spec_FromContinued.j0, h4, beq_self_eq_true, if_true]
          exact Ev.now _
        · rw [if_pos ⟨by omega, by omega, fun h => h4 h.2⟩]
          apply Ev.succ
          have h5 : (l.getD (l.length - 1) 0 == 1) = false := by simpa using h4
          simp only [spec_FromContinued.j0, h5, Bool.false_eq_true, if_false]
          exact fc_spec0 l (by omega) (by omega)
      · simp only [if_neg (show ¬ (l.length : Int) > 1 by omega)]
        rw [if_pos ⟨by omega, by omega, fun h => h3 h.1⟩]
        apply Ev.succ
        simp only [spec_FromContinued.j0, Bool.false_eq_true, if_false]
        exact fc_spec0 l (by omega) (by omega)
theorem terms_ev (l : List Int) (hn : 1 ≤ l.length) (hl : l.length ≤ 20) : Ev (fun k => impl_areTerms.f k l 1000000000) (TM l) := by
  unfold impl_areTerms.f TM
  have hh : rd l 0 = l.headD 0 := by cases l <;> rfl
  simp only [if_neg (show ¬ (l.length : Int) > 20 by omega), if_pos (show (l.length : Int) > 0 by omega), if_pos (show 0 < (l.length : Int) by omega), within_eq, Option.bind_some, hh, if_neg (show ¬ (l.length : Int) = 0 by omega), if_pos (show 1 ≤ (l.length : Int) by omega)]
  by_cases h : 0 ≤ l.headD 0 ∧ l.headD 0 ≤ 1000000000
  · simp only [decide_eq_true h, if_true, Bool.true_and]
    exact Ev.bind (areWithin_ev (l.drop 1) 1 1000000000 (by simp; omega)) (Ev.now _)
  · simp only [decide_eq_false h, Bool.false_eq_true, if_false, Bool.false_and]
    exact Ev.now _
theorem terms_no (l : List Int) (h : l.length > 20) : Ev (fun k => impl_areTerms.f k l 1000000000) false := by
  unfold impl_areTerms.f
  simp only [if_pos (show (l.length : Int) > 20 by omega)]
  exact Ev.now _
theorem fc_impl0 (l : List Int) (hn : 1 ≤ l.length) (hl : l.length ≤ 20) (h : TM l = true) : Ev (fun k => impl_FromContinued.l0 k 1 0 0 1 l (l.length : Int) 0) (bkRes (bk l).1 (bk l).2) := by
  obtain ⟨f1, f2⟩ := tm_facts h hn
  refine (fc_fwd l hl l 0 1 0 0 1 rfl f1 (by simpa using f2) ⟨by omega, by omega⟩ ⟨by omega, by omega⟩ ⟨by omega, by omega⟩ ⟨by omega, by omega⟩).to ?_
  simp only [Int.one_mul, Int.zero_mul, Int.add_zero, Int.zero_add]
theorem fc_impl (l : List Int) (hm : l.length ≤ 1048576) : Ev (fun k => impl_FromContinued.f k l) (FC l) := by
  unfold impl_FromContinued.f FC
  simp only [w64 (show (-9223372036854775808) ≤ (l.length : Int) - 1 by omega) (by omega)]
  by_cases h1 : l.length < 1
  · simp only [if_pos (show (l.length : Int) - 1 < 0 by omega), if_neg (show ¬ (1 ≤ l.length ∧ l.length ≤ 20 ∧ ¬ (1 < l.length ∧ l.getD (l.length - 1) 0 = 1)) by omega)]
    apply Ev.succ
    simp only [impl_FromContinued.j0, if_true]
    exact Ev.now _
  · simp only [if_neg (show ¬ (l.length : Int) - 1 < 0 by omega)]
    by_cases h2 : l.length > 20
    · rw [if_neg (by omega)]
      refine Ev.bind (terms_no l h2) ?_
      simp only [Bool.false_eq_true, if_false]
      apply Ev.succ
      simp only [impl_FromContinued.j0, if_true]
      exact Ev.now _
    · refine Ev.bind (terms_ev l (by omega) (by omega)) ?_
      cases ht : TM l with
      | false =>
        simp only [Bool.false_eq_true, if_false, ite_self]
        apply Ev.succ
        simp only [impl_FromContinued.j0, if_true]
        exact Ev.now _
      | true =>
        simp only [if_true]
        by_cases h3 : l.length > 1
        · simp only [if_pos (show (l.length : Int) - 1 > 0 by omega), if_pos (show 0 ≤ (l.length : Int) - 1 by omega), if_pos (show (l.length : Int) - 1 < l.length by omega), lastrd l (by omega)]
          by_cases h4 : l.getD (l.length - 1) 0 = 1
          · rw [if_neg (fun h => h.2.2 ⟨by omega, h4⟩)]
            apply Ev.succ
            simp only [impl_FromContinued.j0, h4, beq_self_eq_true, if_true]
            exact Ev.now _
          · rw [if_pos ⟨by omega, by omega, fun h => h4 h.2⟩]
            apply Ev.succ
            have h5 : (l.getD (l.length - 1) 0 == 1) = false := by simpa using h4
            simp only [impl_FromContinued.j0, h5, Bool.false_eq_true, if_false]
            exact fc_impl0 l (by omega) (by omega) ht
        · simp only [if_neg (show ¬ (l.length : Int) - 1 > 0 by omega)]
          rw [if_pos ⟨by omega, by omega, fun h => h3 h.1⟩]
          apply Ev.succ
          simp only [impl_FromContinued.j0, Bool.false_eq_true, if_false]
          exact fc_impl0 l (by omega) (by omega) ht
theorem FnExactFromContinued : laws_FnExactFromContinued.Pure := by
  intro l hl _ _
  apply Ev.rounds
  unfold laws_FnExactFromContinued.f
  by_cases hm : (l.length : Int) > 1048576
  · simp only [if_pos hm]
    exact Ev.now _
  · simp only [if_neg hm]
    have ht := toInt64S_ev l (by omega)
    refine Ev.bind ht (Ev.bind (fc_spec l (by omega)) (Ev.bind ht (Ev.bind (fc_impl l (by omega)) ?_)))
    simp only [if_true, bne_self_eq_false]
    apply Ev.succ
    simp only [laws_FnExactFromContinued.j0, Bool.false_eq_true, if_false]
    refine Ev.bind ht (Ev.bind (eqInt64S_ev l l (by omega)) ?_)
    simp only [decide_true, if_true]
    exact Ev.now _


end Go.Proofs.Ytggnpbcekiojdaa.Pure
