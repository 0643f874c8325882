/- Proved: the pure half of the law FnExactTableText: the printed functions answer true, for every input. No condition. -/
import Derived.Test.YtmjabeddommiaaaDoorPFnExactTableTextx5
import Derived.Test.YtmjabeddommiaaaDoorBase
import Derived.Test.YtmjabeddommiaaaDoorLists
import Derived.Test.YtmjabeddommiaaaDoorDec
namespace Go.Proofs.YtmjabeddommiaaaDoor.Pure
open Go.RowKit Go.Proofs.YtmjabeddommiaaaDoor.PFnExactTableText Go.Proofs.YtmjabeddommiaaaDoorW.PrintWords Go.Proofs.YtmjabeddommiaaaDoorW.PrintLast Go.Proofs.YtmjabeddommiaaaDoorW.PrintMore Go.Proofs.YtmjabeddommiaaaDoor.Base
set_option linter.unusedVariables false
set_option linter.unusedSimpArgs false

/-! laws.szInt64S -/
theorem szS_eq (l : List Int) (a : Int) (hl : l.length ≤ 9223372036854775807) (h0 : 0 ≤ a) (h1 : a ≤ 1048576) : laws_szInt64S.f l a = some (if a < l.length then -1 else a - l.length) := by
  unfold laws_szInt64S.f
  rw [w64 (by omega) (by omega)]
  by_cases h : a < l.length
  · rw [if_pos (by omega), if_pos h]
  · rw [if_neg (by omega), if_neg h]

/-! laws.szInt64SS -/
theorem rdl_get {xs : List (List Int)} {i : Nat} (h : i < xs.length) : rd_L1 xs (i : Int) = xs[i] := by
  unfold rd_L1; exact getD_get h
theorem szSS_l0 (l : List (List Int)) (a : Int) (hl : l.length ≤ 1048576) (hr : ∀ r ∈ l, r.length ≤ 9223372036854775807) (h1 : a ≤ 1048576) : ∀ (d i : Nat) (b : Int), d + i = l.length → 0 ≤ b → b ≤ a → (∀ (j : Nat) (h : j < l.length), j < i → ((l[j]).length : Int) ≤ a) → ∃ r : Int, Ev (fun k => laws_szInt64SS.l0 k l b i) r ∧ (r = -1 ∨ (0 ≤ r ∧ r ≤ a ∧ ∀ x ∈ l, (x.length : Int) ≤ a)) := by
  intro d
  induction d with
  | zero =>
    intro i b hd h0 hb hj
    refine ⟨b, ?_, .inr ⟨h0, hb, fun x hx => ?_⟩⟩
    · apply Ev.succ
      simp only [laws_szInt64SS.l0, if_neg (show ¬ (i : Int) < (l.length : Int) by omega)]
      exact Ev.now _
    · obtain ⟨j, hj', rfl⟩ := List.getElem_of_mem hx
      exact hj j hj' (by omega)
  | succ d ih =>
    intro i b hd h0 hb hj
    have hi : i < l.length := by omega
    have hri := hr l[i] (List.getElem_mem hi)
    by_cases h : b < (l[i]).length
    · refine ⟨-1, ?_, .inl rfl⟩
      apply Ev.succ
      simp only [laws_szInt64SS.l0, if_pos (show (i : Int) < (l.length : Int) by omega), if_pos (show 0 ≤ (i : Int) by omega), rdl_get hi, szS_eq l[i] b hri h0 (by omega), if_pos h, Option.bind_some, if_pos (show (-1 : Int) < 0 by omega)]
      exact Ev.now _
    · obtain ⟨r, hr1, hr2⟩ := ih (i + 1) (b - (l[i]).length) (by omega) (by omega) (by omega) (fun j hj1 hj2 => by
        by_cases e : j = i
        · subst e; omega
        · exact hj j hj1 (by omega))
      refine ⟨r, ?_, hr2⟩
      apply Ev.succ
      simp only [laws_szInt64SS.l0, if_pos (show (i : Int) < (l.length : Int) by omega), if_pos (show 0 ≤ (i : Int) by omega), rdl_get hi, szS_eq l[i] b hri h0 (by omega), if_neg h, Option.bind_some, if_neg (show ¬ b - (l[i]).length < 0 by omega), w64 (show (-9223372036854775808) ≤ (i : Int) + 1 by omega) (by omega)]
      exact hr1
theorem szSS_ev (l : List (List Int)) (a : Int) (hl : l.length ≤ 9223372036854775807) (hr : ∀ r ∈ l, r.length ≤ 9223372036854775807) (h0 : 0 ≤ a) (h1 : a ≤ 1048576) : ∃ r : Int, Ev (fun k => laws_szInt64SS.f k l a) r ∧ (r = -1 ∨ (0 ≤ r ∧ r ≤ a ∧ l.length ≤ 1048576 ∧ ∀ x ∈ l, x.length ≤ 1048576)) := by
  unfold laws_szInt64SS.f
  rw [w64 (show (-9223372036854775808) ≤ a - (l.length : Int) by omega) (by omega)]
  by_cases h : a - (l.length : Int) < 0
  · simp only [if_pos h]
    exact ⟨-1, Ev.now _, .inl rfl⟩
  · simp only [if_neg h]
    obtain ⟨r, h1', h2⟩ := szSS_l0 l a (by omega) hr h1 l.length 0 (a - l.length) (by omega) (by omega) (by omega) (fun j _ hj => by omega)
    refine ⟨r, h1', ?_⟩
    rcases h2 with h2 | ⟨h2, h3, h4⟩
    · exact .inl h2
    · exact .inr ⟨h2, h3, by omega, fun x hx => by have := h4 x hx; omega⟩

/-! laws.szTable -/
theorem szTable_ev (d : Int) (l : List (List Int)) (hl : l.length ≤ 9223372036854775807) (hr : ∀ r ∈ l, r.length ≤ 9223372036854775807) (a : Int) (h0 : 0 ≤ a) (h1 : a ≤ 1048576) : ∃ r : Int, Ev (fun k => laws_szTable.f k d l a) r ∧ (r = -1 ∨ (0 ≤ r ∧ r ≤ a ∧ l.length ≤ 1048576 ∧ ∀ x ∈ l, x.length ≤ 1048576)) := by
  obtain ⟨r, h2, h3⟩ := szSS_ev l a hl hr h0 h1
  unfold laws_szTable.f
  refine ⟨r, Ev.bind h2 ?_, h3⟩
  rcases h3 with rfl | h3
  · exact Ev.now _
  · simp only [if_neg (show ¬ r < 0 by omega)]
    exact Ev.now _

/-! spec.l00In -/
theorem in_eq (a b c : Int) : spec_l00In.f a b c = some (decide (b ≤ a ∧ a ≤ c)) := by
  unfold spec_l00In.f
  by_cases h : b ≤ a
  · rw [if_pos (show a ≥ b from h)]; simp [h]
  · rw [if_neg (show ¬ a ≥ b from h)]; simp [h]

/-! spec.l05Is -/
/-- A valid table. -/
def rowOk (n : Nat) (r : List Int) : Bool := decide (r.length = n) && r.all fun x => decide (0 ≤ x ∧ x ≤ 100000)
def VT (d : Int) (l : List (List Int)) : Bool := decide (1 ≤ d ∧ d ≤ 1000) && (decide (1 ≤ (l.length : Int) ∧ (l.length : Int) ≤ 5) && (decide (1 ≤ ((l.headD []).length : Int) ∧ ((l.headD []).length : Int) ≤ 5) && l.all (rowOk (l.headD []).length)))
theorem rdl_get4 {xs : List (List Int)} {i : Nat} (h : i < xs.length) : rd_L1 xs (i : Int) = xs[i] := by
  unfold rd_L1; exact getD_get h
theorem rdl_head (xs : List (List Int)) : rd_L1 xs 0 = xs.headD [] := by
  unfold rd_L1; cases xs <;> rfl
theorem side_eq (a : Int) : spec_l05Side.f a = some (decide (1 ≤ a ∧ a ≤ 5)) := by
  unfold spec_l05Side.f
  by_cases h : 1 ≤ a
  · rw [if_pos (show a ≥ 1 from h)]; simp [h]
  · rw [if_neg (show ¬ a ≥ 1 from h)]; simp [h]
theorem vt_l1 (d : Int) (l : List (List Int)) (i : Nat) (hi : i < l.length) (hm : (l[i]).length ≤ 1048576) {r : Bool} (hr : Ev (fun k => spec_l05Is.l0 k (wrap64 ((i : Int) + 1)) d l) r) : Ev (fun k => spec_l05Is.l1 k i 0 d l) (((l[i]).all fun x => decide (0 ≤ x ∧ x ≤ 100000)) && r) := by
  refine all_loop l[i] (fun x => decide (0 ≤ x ∧ x ≤ 100000)) (fun k j => spec_l05Is.l1 k i j d l) ?_ ?_ ?_
  · apply Ev.succ
    simp only [spec_l05Is.l1, if_pos (show 0 ≤ (i : Int) by omega), if_pos (show (i : Int) < (l.length : Int) by omega), rdl_get4 hi, if_neg (show ¬ ((l[i]).length : Int) < (l[i]).length by omega)]
    exact hr
  · intro j hj hp
    apply Ev.succ
    simp only [spec_l05Is.l1, if_pos (show 0 ≤ (i : Int) by omega), if_pos (show (i : Int) < (l.length : Int) by omega), rdl_get4 hi, if_pos (show (j : Int) < (l[i]).length by omega), if_pos (show 0 ≤ (j : Int) by omega), rd_get hj, in_eq, Option.bind_some, hp, Bool.false_eq_true, if_false]
    exact Ev.now _
  · intro j hj hp r hr
    apply Ev.succ
    simp only [spec_l05Is.l1, if_pos (show 0 ≤ (i : Int) by omega), if_pos (show (i : Int) < (l.length : Int) by omega), rdl_get4 hi, if_pos (show (j : Int) < (l[i]).length by omega), if_pos (show 0 ≤ (j : Int) by omega), rd_get hj, in_eq, Option.bind_some, hp, if_true, inc hj (by omega)]
    exact hr
theorem vt_l0 (d : Int) (l : List (List Int)) (hl : l.length ≤ 1048576) (hr : ∀ r ∈ l, r.length ≤ 1048576) : Ev (fun k => spec_l05Is.l0 k 0 d l) (l.all (rowOk (l.headD []).length)) := by
  refine (all_loop l (rowOk (l.headD []).length) (fun k j => spec_l05Is.l0 k j d l) (r := true) ?_ ?_ ?_).to (by rw [Bool.and_true])
  · apply Ev.succ
    simp only [spec_l05Is.l0, if_neg (show ¬ (l.length : Int) < l.length by omega)]
    exact Ev.now _
  · intro i hi hp
    apply Ev.succ
    simp only [spec_l05Is.l0, if_pos (show (i : Int) < (l.length : Int) by omega), if_pos (show 0 ≤ (i : Int) by omega), if_pos (show 0 < (l.length : Int) by omega), rdl_get4 hi, rdl_head]
    by_cases e : (l[i]).length = (l.headD []).length
    · simp only [if_pos (show ((l[i]).length : Int) = (l.headD []).length by omega)]
      simp only [rowOk, decide_eq_true e, Bool.true_and] at hp
      have hm := hr l[i] (List.getElem_mem hi)
      -- whatever stands behind it, the row itself says no
      refine all_no l[i] (L := fun k j => spec_l05Is.l1 k i j d l) (by omega) ?_ hp ?_
      · intro j hj hq
        apply Ev.succ
        simp only [spec_l05Is.l1, if_pos (show 0 ≤ (i : Int) by omega), if_pos (show (i : Int) < (l.length : Int) by omega), rdl_get4 hi, if_pos (show (j : Int) < (l[i]).length by omega), if_pos (show 0 ≤ (j : Int) by omega), rd_get hj, in_eq, Option.bind_some, hq, Bool.false_eq_true, if_false]
        exact Ev.now _
      · intro j hj hq r hr
        apply Ev.succ
        simp only [spec_l05Is.l1, if_pos (show 0 ≤ (i : Int) by omega), if_pos (show (i : Int) < (l.length : Int) by omega), rdl_get4 hi, if_pos (show (j : Int) < (l[i]).length by omega), if_pos (show 0 ≤ (j : Int) by omega), rd_get hj, in_eq, Option.bind_some, hq, if_true, inc hj (by omega)]
        exact hr
    · simp only [if_neg (show ¬ ((l[i]).length : Int) = (l.headD []).length by omega)]
      exact Ev.now _
  · intro i hi hp r hr'
    simp only [rowOk, Bool.and_eq_true, decide_eq_true_eq] at hp
    apply Ev.succ
    simp only [spec_l05Is.l0, if_pos (show (i : Int) < (l.length : Int) by omega), if_pos (show 0 ≤ (i : Int) by omega), if_pos (show 0 < (l.length : Int) by omega), rdl_get4 hi, rdl_head, if_pos (show ((l[i]).length : Int) = (l.headD []).length by omega)]
    refine (vt_l1 d l i hi (hr _ (List.getElem_mem hi)) (r := r) ?_).to (by rw [hp.2, Bool.true_and])
    rw [inc hi (by omega)]
    exact hr'
theorem l05Is_ev (d : Int) (l : List (List Int)) (hl : l.length ≤ 1048576) (hr : ∀ r ∈ l, r.length ≤ 1048576) : Ev (fun k => spec_l05Is.f k d l) (VT d l) := by
  unfold spec_l05Is.f VT
  simp only [in_eq, side_eq, Option.bind_some, rdl_head]
  by_cases h1 : 1 ≤ d ∧ d ≤ 1000
  · by_cases h2 : 1 ≤ (l.length : Int) ∧ (l.length : Int) ≤ 5
    · simp only [decide_eq_true h1, decide_eq_true h2, if_true, if_pos (show 0 < (l.length : Int) by omega), Bool.true_and]
      apply Ev.succ
      by_cases h3 : 1 ≤ ((l.headD []).length : Int) ∧ ((l.headD []).length : Int) ≤ 5
      · simp only [spec_l05Is.j0, decide_eq_true h3, Bool.not_true, Bool.false_eq_true, if_false, Bool.true_and]
        exact vt_l0 d l hl hr
      · simp only [spec_l05Is.j0, decide_eq_false h3, Bool.not_false, if_true, Bool.false_and]
        exact Ev.now _
    · simp only [decide_eq_true h1, decide_eq_false h2, if_true, Bool.false_eq_true, if_false, Bool.false_and, Bool.and_false]
      apply Ev.succ
      simp only [spec_l05Is.j0, if_true]
      exact Ev.now _
  · simp only [decide_eq_false h1, Bool.false_eq_true, if_false, Bool.false_and]
    apply Ev.succ
    simp only [spec_l05Is.j0, if_true]
    exact Ev.now _
theorem vt_facts {d : Int} {l : List (List Int)} (h : VT d l = true) : 1 ≤ l.length ∧ l.length ≤ 5 ∧ (l.headD []).length ≤ 5 ∧ ∀ i, i < l.length → (l.getD i []).length = (l.headD []).length := by
  simp only [VT, rowOk, Bool.and_eq_true, List.all_eq_true, decide_eq_true_iff] at h
  obtain ⟨_, h2, h3, h4⟩ := h
  refine ⟨by omega, by omega, by omega, fun i hi => ?_⟩
  have := h4 (l.getD i []) (by simp [List.getD_eq_getElem?_getD, hi])
  exact this.1

/-! spec.l01Dec -/
theorem sdec_l0 (n0 : Int) : ∀ (N : Nat) (x : Int), x.natAbs ≤ N → x.natAbs ≤ 1000000000 → ∀ acc : List UInt8, acc.length + x.natAbs ≤ 2000000000 →
    Ev (fun k => spec_l01Dec.l0 k n0 (BS acc) x) (BS ((if n0 < 0 then [45] else []) ++ (Go.Lib.decDigits x.natAbs ++ acc))) := by
  intro N
  induction N with
  | zero => 
    intro x hN hx acc ha
    obtain rfl : x = 0 := by omega
    apply Ev.succ
    simp only [spec_l01Dec.l0, show Int.tmod 0 10 = 0 from rfl, show Int.tdiv 0 10 = 0 from rfl, w64 (show (-9223372036854775808 : Int) ≤ 0 by omega) (by omega), if_neg (show ¬ (0 : Int) < 0 by omega), Option.bind_some, bs_one, bs_append, bs_size, if_true]
    rw [show Go.Lib.decDigits (Int.natAbs 0) = [UInt8.ofNat 48] from dec_lt (by decide)]
    have e : UInt8.ofNat (wrap64 (48 + 0) % 256).toNat = UInt8.ofNat 48 := by rw [w64 (show (-9223372036854775808 : Int) ≤ 48 + 0 by omega) (by omega)]; rfl
    rw [e]
    by_cases c : n0 < 0
    · simp only [if_pos c, List.length_append, List.length_cons, List.length_nil, if_pos (show 0 + 1 + acc.length ≤ 9223372036854775807 by omega), if_pos (show 1 + (0 + 1 + acc.length) ≤ 9223372036854775807 by omega)]
      rw [show (⟨#[45]⟩ : ByteArray) = BS [45] from rfl, bs_append]
      exact Ev.now _
    · simp only [if_neg c, List.length_append, List.length_cons, List.length_nil, if_pos (show 0 + 1 + acc.length ≤ 9223372036854775807 by omega)]
      exact Ev.now _
  | succ N ih =>
    intro x hN hx acc ha
    have hd : (Int.tdiv x 10).natAbs = x.natAbs / 10 := Int.natAbs_tdiv x 10
    have hm : (Int.tmod x 10).natAbs = x.natAbs % 10 := Int.natAbs_tmod x 10
    have wd : wrap64 (Int.tdiv x 10) = Int.tdiv x 10 := w64 (by omega) (by omega)
    -- the digit, whichever sign
    have key : ∀ c : Int, c.natAbs = x.natAbs % 10 → 0 ≤ c → ∀ y : List Int, y = [wrap64 (48 + c) % 256] → Ev (fun k => if (strOfNums y).size + (BS acc).size ≤ 9223372036854775807 then (if (wrap64 (Int.tdiv x 10)) = 0 then (if n0 < 0 then (if 1 + ((strOfNums y) ++ BS acc).size ≤ 9223372036854775807 then (some ((⟨#[45]⟩ : ByteArray) ++ ((strOfNums y) ++ BS acc))) else (none)) else (some ((strOfNums y) ++ BS acc))) else (spec_l01Dec.l0 k n0 ((strOfNums y) ++ BS acc) (wrap64 (Int.tdiv x 10)))) else (none)) (BS ((if n0 < 0 then [45] else []) ++ (Go.Lib.decDigits x.natAbs ++ acc))) := by
      intro c hc h0 y hy
      subst hy
      have e : UInt8.ofNat (wrap64 (48 + c) % 256).toNat = UInt8.ofNat (48 + x.natAbs % 10) := by
        rw [w64 (by omega) (by omega)]
        exact dec_digit hc h0
      simp only [bs_one, e, bs_append, bs_size, wd, List.length_append, List.length_cons, List.length_nil, if_pos (show 0 + 1 + acc.length ≤ 9223372036854775807 by omega), if_pos (show 1 + (0 + 1 + acc.length) ≤ 9223372036854775807 by omega)]
      by_cases cz : x.natAbs < 10
      · have hz : Int.tdiv x 10 = 0 := by omega
        rw [dec_lt cz, show 48 + x.natAbs % 10 = 48 + x.natAbs by omega]
        simp only [if_pos hz]
        by_cases cn : n0 < 0
        · simp only [if_pos cn]
          rw [show (⟨#[45]⟩ : ByteArray) = BS [45] from rfl, bs_append]
          exact Ev.now _
        · simp only [if_neg cn]
          exact Ev.now _
      · have hz : ¬ Int.tdiv x 10 = 0 := by omega
        simp only [if_neg hz]
        have := ih (Int.tdiv x 10) (by omega) (by omega) ([UInt8.ofNat (48 + x.natAbs % 10)] ++ acc) (by rw [List.length_append, hd]; simp only [List.length_cons, List.length_nil]; omega)
        rw [hd] at this
        rw [dec_ge cz]
        simpa using this
    apply Ev.succ
    by_cases c : Int.tmod x 10 < 0
    · simp only [spec_l01Dec.l0, if_pos c, Option.bind_some, w64 (show (-9223372036854775808 : Int) ≤ -(Int.tmod x 10) by omega) (by omega)]
      exact key (-(Int.tmod x 10)) (by omega) (by omega) _ rfl
    · simp only [spec_l01Dec.l0, if_neg c, Option.bind_some]
      exact key (Int.tmod x 10) hm (by omega) _ rfl
theorem sdec_ev (n : Int) (h : n.natAbs ≤ 1000000000) : Ev (fun k => spec_l01Dec.f k n) (BS (Go.Lib.itoa n)) := by
  have := sdec_l0 n n.natAbs n (Nat.le_refl _) h [] (by simp; omega)
  unfold spec_l01Dec.f
  refine this.to ?_
  rw [itoa_def]
  by_cases c : n < 0
  · rw [if_pos c, if_pos c]; simp
  · rw [if_neg c, if_neg c, show n.toNat = n.natAbs by omega]; simp

/-! spec.l01Text -/
theorem stext_l0 (l : List Int) (hl : l.length ≤ 5) (hx : ∀ x ∈ l, 0 ≤ x ∧ x ≤ 100000) : ∀ (d i : Nat), 1 ≤ i → i + d = l.length → Ev (fun k => spec_l01Text.l0 k l (BS (LTX (l.take i))) (i : Int)) (BS (LTX l)) := by
  intro d
  induction d with
  | zero =>
    intro i h1 hi
    apply Ev.succ
    simp only [spec_l01Text.l0, if_neg (show ¬ (i : Int) < (l.length : Int) by omega)]
    rw [List.take_of_length_le (by omega)]
    exact Ev.now _
  | succ d ih =>
    intro i h1 hi
    have hi' : i < l.length := by omega
    have hb := hx l[i] (List.getElem_mem hi')
    have hlen := ltx_len (l := l.take i) (by rw [List.length_take]; omega) (fun x h => hx x (List.mem_of_mem_take h))
    have hlen2 := itoa_len (n := l[i]) (B := 100000) (by omega)
    apply Ev.succ
    simp only [spec_l01Text.l0, if_pos (show (i : Int) < (l.length : Int) by omega), if_pos (show 0 ≤ (i : Int) by omega), rd_get hi', inc hi' (by omega)]
    refine Ev.bind (sdec_ev l[i] (by omega)) ?_
    simp only [show (⟨#[44]⟩ : ByteArray) = BS [44] from rfl, bs_append, bs_size, List.length_append, List.length_cons, List.length_nil, if_pos (show 1 + (Go.Lib.itoa l[i]).length ≤ 9223372036854775807 by omega), if_pos (show (LTX (l.take i)).length + (0 + 1 + (Go.Lib.itoa l[i]).length) ≤ 9223372036854775807 by omega)]
    have := ih (i + 1) (by omega) (by omega)
    refine Ev.to (g := fun k => spec_l01Text.l0 k l (BS (LTX (l.take i) ++ ([44] ++ Go.Lib.itoa l[i]))) ((i : Int) + 1)) ?_ rfl
    have e : LTX (l.take (i + 1)) = LTX (l.take i) ++ ([44] ++ Go.Lib.itoa l[i]) := by
      unfold LTX
      rw [List.take_succ_eq_append_getElem hi', List.map_append]
      refine join_snoc _ _ _ (fun h => ?_)
      have := congrArg List.length h
      rw [List.length_map, List.length_take, List.length_nil] at this
      omega
    rw [← e]
    exact this
theorem stext_ev (l : List Int) (h1 : 1 ≤ l.length) (hl : l.length ≤ 5) (hx : ∀ x ∈ l, 0 ≤ x ∧ x ≤ 100000) : Ev (fun k => spec_l01Text.f k l) (BS (LTX l)) := by
  have hb := hx l[0] (List.getElem_mem (by omega))
  have := stext_l0 l hl hx (l.length - 1) 1 (by omega) (by omega)
  unfold spec_l01Text.f
  simp only [if_neg (show ¬ (l.length : Int) = 0 by omega), if_pos (show (0 : Int) < (l.length : Int) by omega)]
  have r0 : rd l 0 = l[0] := rd_get (xs := l) (i := 0) (by omega)
  rw [r0]
  refine Ev.bind (sdec_ev l[0] (by omega)) ?_
  have e : LTX (l.take 1) = Go.Lib.itoa l[0] := by
    unfold LTX
    rw [show l.take 1 = [l[0]] by cases l with | nil => simp at h1 | cons a r => rfl]
    rw [List.map_cons, List.map_nil, join_one]
  rw [← e]
  exact this

/-! spec.l05Text -/
theorem rdl_tx {xs : List (List Int)} {i : Nat} (h : i < xs.length) : rd_L1 xs (i : Int) = xs[i] := by
  unfold rd_L1; exact getD_get h
/-- A table that has a text. -/
def TOK (d : Int) (T : List (List Int)) : Prop := (1 ≤ d ∧ d ≤ 1000) ∧ (1 ≤ T.length ∧ T.length ≤ 5) ∧ ∀ r ∈ T, (1 ≤ r.length ∧ r.length ≤ 5) ∧ ∀ x ∈ r, 0 ≤ x ∧ x ≤ 100000
theorem rows_len {d : Int} {T : List (List Int)} (h : TOK d T) (i : Nat) : (Go.Lib.join ((T.take i).map LTX) [47]).length ≤ 4000000 := by
  have h2 := join_len 47 600000 ((T.take i).map LTX) (fun y hy => by
    obtain ⟨r, hr, rfl⟩ := List.mem_map.1 hy
    have := h.2.2 r (List.mem_of_mem_take hr)
    exact ltx_len this.1.2 this.2)
  have h4 := h.2.1
  rw [List.length_map, List.length_take] at h2
  have h3 : min i T.length * (600000 + 1) ≤ 5 * (600000 + 1) := Nat.mul_le_mul_right _ (by omega)
  omega
theorem t5_l0 (d : Int) (T : List (List Int)) (h : TOK d T) : ∀ (m i : Nat), i + m = T.length → Ev (fun k => spec_l05Text.l0 k (BS (Go.Lib.itoa d ++ [58] ++ Go.Lib.join ((T.take i).map LTX) [47])) (i : Int) d T) (BS (TTX d T)) := by
  intro m
  have hdl := itoa_len (n := d) (B := 1000) (by have := h.1; omega)
  have hT5 := h.2.1
  induction m with
  | zero =>
    intro i hi
    apply Ev.succ
    simp only [spec_l05Text.l0, if_neg (show ¬ (i : Int) < (T.length : Int) by omega)]
    rw [List.take_of_length_le (by omega)]
    exact Ev.now _
  | succ m ih =>
    intro i hi
    have hi' : i < T.length := by omega
    have hr := h.2.2 T[i] (List.getElem_mem hi')
    have hlen := rows_len h i
    have hrl := ltx_len hr.1.2 hr.2
    have := ih (i + 1) (by omega)
    rw [Int.natCast_succ] at this
    apply Ev.succ
    by_cases c : 0 < i
    · have e : Go.Lib.itoa d ++ ([58] : List UInt8) ++ Go.Lib.join ((T.take (i + 1)).map LTX) [47] = Go.Lib.itoa d ++ ([58] : List UInt8) ++ Go.Lib.join ((T.take i).map LTX) [47] ++ ([47] : List UInt8) ++ LTX T[i] := by
        rw [List.take_succ_eq_append_getElem hi', List.map_append, List.map_cons, List.map_nil, join_snoc]
        · simp
        · intro hh
          have := congrArg List.length hh
          rw [List.length_map, List.length_take, List.length_nil] at this
          omega
      rw [e] at this
      simp only [spec_l05Text.l0, if_pos (show (i : Int) < (T.length : Int) by omega), if_pos (show (i : Int) > 0 by omega), if_pos (show 0 ≤ (i : Int) by omega), rdl_tx hi', inc hi' (by omega), show (⟨#[47]⟩ : ByteArray) = BS [47] from rfl, bs_append, bs_size, List.length_append, List.length_cons, List.length_nil, if_pos (show (Go.Lib.itoa d).length + (0 + 1) + (Go.Lib.join ((T.take i).map LTX) [47]).length + 1 ≤ 9223372036854775807 by omega)]
      refine Ev.bind (stext_ev T[i] hr.1.1 hr.1.2 hr.2) ?_
      simp only [bs_append, bs_size, if_pos (show (Go.Lib.itoa d).length + (0 + 1) + (Go.Lib.join ((T.take i).map LTX) [47]).length + (0 + 1) + (LTX T[i]).length ≤ 9223372036854775807 by omega)]
      exact this
    · obtain rfl : i = 0 := by omega
      have e : Go.Lib.itoa d ++ ([58] : List UInt8) ++ Go.Lib.join ((T.take (0 + 1)).map LTX) [47] = Go.Lib.itoa d ++ ([58] : List UInt8) ++ Go.Lib.join ((T.take 0).map LTX) [47] ++ LTX T[0] := by
        rw [List.take_succ_eq_append_getElem hi']
        simp only [List.take_zero, List.nil_append, List.map_cons, List.map_nil, join_one]
        rw [show Go.Lib.join [] [47] = [] from rfl]
        simp
      rw [e] at this
      simp only [spec_l05Text.l0, if_pos (show ((0 : Nat) : Int) < (T.length : Int) by omega), if_neg (show ¬ ((0 : Nat) : Int) > 0 by omega), if_pos (show 0 ≤ ((0 : Nat) : Int) by omega), rdl_tx hi', inc hi' (by omega)]
      refine Ev.bind (stext_ev T[0] hr.1.1 hr.1.2 hr.2) ?_
      simp only [bs_append, bs_size, List.length_append, List.length_cons, List.length_nil, if_pos (show (Go.Lib.itoa d).length + (0 + 1) + (Go.Lib.join ((T.take 0).map LTX) [47]).length + (LTX T[0]).length ≤ 9223372036854775807 by omega)]
      exact this
theorem l05Text_ev (d : Int) (T : List (List Int)) (h : TOK d T) : Ev (fun k => spec_l05Text.f k d T) (BS (TTX d T)) := by
  have hdl := itoa_len (n := d) (B := 1000) (by have := h.1; omega)
  have := t5_l0 d T h T.length 0 (by omega)
  rw [List.take_zero, List.map_nil, show Go.Lib.join [] [47] = [] from rfl, List.append_nil] at this
  unfold spec_l05Text.f
  refine Ev.bind (sdec_ev d (by have := h.1; omega)) ?_
  simp only [bs_size, if_pos (show (Go.Lib.itoa d).length + 1 ≤ 9223372036854775807 by omega), show (⟨#[58]⟩ : ByteArray) = BS [58] from rfl, bs_append]
  exact this

/-! laws.toInt64S -/
theorem to_step (l : List Int) (i : Nat) (hi : i < l.length) : (l.take i ++ List.replicate (l.length - i) 0).set i l[i] = l.take (i + 1) ++ List.replicate (l.length - (i + 1)) 0 := by
  rw [show l.length - i = (l.length - (i + 1)) + 1 by omega, List.replicate_succ, List.set_append, if_neg (by simp; omega), List.length_take, Nat.min_eq_left (by omega), Nat.sub_self, List.set_cons_zero, List.take_succ_eq_append_getElem hi, List.append_assoc]
  rfl
theorem to_l0 (l : List Int) (hl : l.length ≤ 35184372088832) : ∀ (d i : Nat), d + i = l.length → Ev (fun k => laws_toInt64S.l0 k l (l.take i ++ List.replicate (l.length - i) 0) i) l := by
  intro d
  induction d with
  | zero =>
    intro i hd
    apply Ev.succ
    simp only [laws_toInt64S.l0, if_neg (show ¬ (i : Int) < (l.length : Int) by omega)]
    rw [List.take_of_length_le (by omega), show l.length - i = 0 by omega]
    simpa using Ev.now l
  | succ d ih =>
    intro i hd
    have hi : i < l.length := by omega
    apply Ev.succ
    simp only [laws_toInt64S.l0, if_pos (show (i : Int) < (l.length : Int) by omega), if_pos (show 0 ≤ (i : Int) by omega), if_pos (show (i : Int) < ((l.take i ++ List.replicate (l.length - i) (0 : Int)).length : Int) by simp; omega), rd_get hi, w64 (show (-9223372036854775808) ≤ (i : Int) + 1 by omega) (by omega), Int.toNat_natCast, to_step l i hi]
    exact ih (i + 1) (by omega)
theorem toInt64S_ev (l : List Int) (hl : l.length ≤ 35184372088832) : Ev (fun k => laws_toInt64S.f k l) l := by
  simp only [laws_toInt64S.f, if_pos (show 0 ≤ (l.length : Int) by omega), Int.toNat_natCast, if_pos hl]
  have := to_l0 l hl l.length 0 (by omega)
  simpa using this

/-! laws.toInt64SS -/
theorem toss_step (l : List (List Int)) (i : Nat) (hi : i < l.length) : (l.take i ++ List.replicate (l.length - i) []).set i l[i] = l.take (i + 1) ++ List.replicate (l.length - (i + 1)) [] := by
  rw [show l.length - i = (l.length - (i + 1)) + 1 by omega, List.replicate_succ, List.set_append, if_neg (by simp; omega), List.length_take, Nat.min_eq_left (by omega), Nat.sub_self, List.set_cons_zero, List.take_succ_eq_append_getElem hi, List.append_assoc]
  rfl
theorem rdl_get2 {xs : List (List Int)} {i : Nat} (h : i < xs.length) : rd_L1 xs (i : Int) = xs[i] := by
  unfold rd_L1; exact getD_get h
theorem toss_l0 (l : List (List Int)) (hl : l.length ≤ 1048576) (hr : ∀ r ∈ l, r.length ≤ 1048576) : ∀ (d i : Nat), d + i = l.length → Ev (fun k => laws_toInt64SS.l0 k l (l.take i ++ List.replicate (l.length - i) []) i) l := by
  intro d
  induction d with
  | zero =>
    intro i hd
    apply Ev.succ
    simp only [laws_toInt64SS.l0, if_neg (show ¬ (i : Int) < (l.length : Int) by omega)]
    rw [List.take_of_length_le (by omega), show l.length - i = 0 by omega]
    simpa using Ev.now l
  | succ d ih =>
    intro i hd
    have hi : i < l.length := by omega
    have hri := hr l[i] (List.getElem_mem hi)
    apply Ev.succ
    simp only [laws_toInt64SS.l0, if_pos (show (i : Int) < (l.length : Int) by omega), if_pos (show 0 ≤ (i : Int) by omega), if_pos (show (i : Int) < ((l.take i ++ List.replicate (l.length - i) ([] : List Int)).length : Int) by simp; omega), rdl_get2 hi, w64 (show (-9223372036854775808) ≤ (i : Int) + 1 by omega) (by omega), Int.toNat_natCast]
    refine Ev.bind (toInt64S_ev l[i] (by omega)) ?_
    rw [toss_step l i hi]
    exact ih (i + 1) (by omega)
theorem toInt64SS_ev (l : List (List Int)) (hl : l.length ≤ 1048576) (hr : ∀ r ∈ l, r.length ≤ 1048576) : Ev (fun k => laws_toInt64SS.f k l) l := by
  simp only [laws_toInt64SS.f, if_pos (show 0 ≤ (l.length : Int) by omega), Int.toNat_natCast, if_pos (show l.length ≤ 11728124029610 by omega)]
  have := toss_l0 l hl hr l.length 0 (by omega)
  simpa using this

/-! laws.toTable -/
theorem toTable_ev (d : Int) (l : List (List Int)) (hl : l.length ≤ 1048576) (hr : ∀ r ∈ l, r.length ≤ 1048576) : Ev (fun k => laws_toTable.f k d l) (d, l) := by
  unfold laws_toTable.f
  exact Ev.bind (toInt64SS_ev l hl hr) (Ev.now _)

/-! impl.within -/
theorem within_eq (a b c : Int) : impl_within.f a b c = some (decide (b ≤ a ∧ a ≤ c)) := by
  unfold impl_within.f
  by_cases h : b ≤ a
  · rw [if_pos h]; simp [h]
  · rw [if_neg h]; simp [h]

/-! impl.areWithin -/
theorem aw_l0 (l : List Int) (a b : Int) (hl : l.length ≤ 9223372036854775806) : ∀ (d i : Nat), d + i = l.length → ∃ r : Int, Ev (fun k => slices_IndexFunc_int64_int64_impl_areWithin_1.l0 k l (l.length : Int) i a b) r ∧ (decide (r ≥ 0) = !(l.drop i).all fun n => decide (a ≤ n ∧ n ≤ b)) := by
  intro d
  induction d with
  | zero =>
    intro i hd
    refine ⟨-1, ?_, ?_⟩
    · apply Ev.succ
      simp only [slices_IndexFunc_int64_int64_impl_areWithin_1.l0, if_neg (show ¬ (i : Int) < (l.length : Int) by omega)]
      exact Ev.now _
    · rw [List.drop_of_length_le (by omega)]; rfl
  | succ d ih =>
    intro i hd
    have hi : i < l.length := by omega
    obtain ⟨r, hr, he⟩ := ih (i + 1) (by omega)
    by_cases h : a ≤ l[i] ∧ l[i] ≤ b
    · refine ⟨r, ?_, ?_⟩
      · apply Ev.succ
        simp only [slices_IndexFunc_int64_int64_impl_areWithin_1.l0, if_pos (show (i : Int) < (l.length : Int) by omega), if_pos (show 0 ≤ (i : Int) by omega), rd_get hi, impl_areWithin_1.f, within_eq, decide_eq_true h, Option.bind_some, w64 (show (-9223372036854775808) ≤ (i : Int) + 1 by omega) (by omega)]
        simpa using hr
      · rw [he, List.drop_eq_getElem_cons hi, List.all_cons, decide_eq_true h, Bool.true_and]
    · refine ⟨i, ?_, ?_⟩
      · apply Ev.succ
        simp only [slices_IndexFunc_int64_int64_impl_areWithin_1.l0, if_pos (show (i : Int) < (l.length : Int) by omega), if_pos (show 0 ≤ (i : Int) by omega), rd_get hi, impl_areWithin_1.f, within_eq, decide_eq_false h, Option.bind_some]
        simpa using Ev.now _
      · rw [List.drop_eq_getElem_cons hi, List.all_cons, decide_eq_false h, Bool.false_and]; simp
theorem areWithin_ev (l : List Int) (a b : Int) (hl : l.length ≤ 9223372036854775806) : Ev (fun k => impl_areWithin.f k l a b) (l.all fun n => decide (a ≤ n ∧ n ≤ b)) := by
  obtain ⟨r, hr, he⟩ := aw_l0 l a b hl l.length 0 (by omega)
  unfold impl_areWithin.f
  simp only [slices_ContainsFunc_int64_int64_impl_areWithin_1.f, slices_IndexFunc_int64_int64_impl_areWithin_1.f]
  refine Ev.bind (Ev.bind hr (Ev.now _)) ?_
  refine (Ev.now _).to ?_
  rw [he, List.drop_zero, Bool.not_not]

/-! impl.ValidTable -/
def irowOk (n : Nat) (r : List Int) : Bool := decide (r.length = n) && r.all fun x => decide (0 ≤ x ∧ x ≤ 100000)
def iVT (d : Int) (l : List (List Int)) : Bool := decide (1 ≤ d ∧ d ≤ 1000) && (decide (1 ≤ (l.length : Int) ∧ (l.length : Int) ≤ 5) && (decide (1 ≤ ((l.headD []).length : Int) ∧ ((l.headD []).length : Int) ≤ 5) && l.all (irowOk (l.headD []).length)))
theorem rdl_get5 {xs : List (List Int)} {i : Nat} (h : i < xs.length) : rd_L1 xs (i : Int) = xs[i] := by
  unfold rd_L1; exact getD_get h
theorem rdl_head5 (xs : List (List Int)) : rd_L1 xs 0 = xs.headD [] := by
  unfold rd_L1; cases xs <;> rfl
theorem vt1_ev (r : List Int) (d : Int) (l : List (List Int)) (hp : 0 < l.length) (hr : r.length ≤ 1048576) : Ev (fun k => impl_ValidTable_1.f k r d l) (!irowOk (l.headD []).length r) := by
  unfold impl_ValidTable_1.f irowOk
  simp only [if_pos (show 0 < (l.length : Int) by omega), rdl_head5]
  by_cases e : r.length = (l.headD []).length
  · simp only [if_pos (show (r.length : Int) = (l.headD []).length by omega), decide_eq_true e, Bool.true_and]
    exact Ev.bind (areWithin_ev r 0 100000 (by omega)) (Ev.now _)
  · simp only [if_neg (show ¬ (r.length : Int) = (l.headD []).length by omega), decide_eq_false e, Bool.false_and, Bool.not_false]
    exact Ev.now _
theorem iVT_ev (d : Int) (l : List (List Int)) (hl : l.length ≤ 1048576) (hr : ∀ r ∈ l, r.length ≤ 1048576) : Ev (fun k => impl_ValidTable.f k d l) (iVT d l) := by
  unfold impl_ValidTable.f iVT
  simp only [within_eq, impl_size_int64_37.f, impl_size_int64_36.f, Option.bind_some, rdl_head5]
  by_cases h1 : 1 ≤ d ∧ d ≤ 1000
  · by_cases h2 : 1 ≤ (l.length : Int) ∧ (l.length : Int) ≤ 5
    · simp only [decide_eq_true h1, decide_eq_true h2, if_true, if_pos (show 0 < (l.length : Int) by omega), Bool.true_and]
      by_cases h3 : 1 ≤ ((l.headD []).length : Int) ∧ ((l.headD []).length : Int) ≤ 5
      · simp only [decide_eq_true h3, if_true, Bool.true_and]
        obtain ⟨r, hr1, hr2⟩ := find_loop l (fun x => !irowOk (l.headD []).length x) (fun k j => slices_IndexFunc_int64_int64_impl_ValidTable_1.l0 k l (l.length : Int) j d l)
          (by
            apply Ev.succ
            simp only [slices_IndexFunc_int64_int64_impl_ValidTable_1.l0, if_neg (show ¬ (l.length : Int) < l.length by omega)]
            exact Ev.now _)
          (fun i hi hp => by
            apply Ev.succ
            simp only [slices_IndexFunc_int64_int64_impl_ValidTable_1.l0, if_pos (show (i : Int) < (l.length : Int) by omega), if_pos (show 0 ≤ (i : Int) by omega), rdl_get5 hi]
            refine Ev.bind (vt1_ev l[i] d l (by omega) (hr _ (List.getElem_mem hi))) ?_
            simp only [hp, if_true]
            exact Ev.now _)
          (fun i hi hp r hr' => by
            apply Ev.succ
            simp only [slices_IndexFunc_int64_int64_impl_ValidTable_1.l0, if_pos (show (i : Int) < (l.length : Int) by omega), if_pos (show 0 ≤ (i : Int) by omega), rdl_get5 hi]
            refine Ev.bind (vt1_ev l[i] d l (by omega) (hr _ (List.getElem_mem hi))) ?_
            simp only [hp, Bool.false_eq_true, if_false, inc hi (by omega)]
            exact hr')
        simp only [slices_ContainsFunc_int64_int64_impl_ValidTable_1.f, slices_IndexFunc_int64_int64_impl_ValidTable_1.f]
        refine Ev.bind (Ev.bind hr1 (Ev.now _)) ?_
        refine (Ev.now _).to ?_
        rw [hr2, any_not, Bool.not_not]
      · simp only [decide_eq_false h3, Bool.false_eq_true, if_false, Bool.false_and]
        exact Ev.now _
    · simp only [decide_eq_true h1, decide_eq_false h2, if_true, Bool.false_eq_true, if_false, Bool.false_and, Bool.and_false]
      exact Ev.now _
  · simp only [decide_eq_false h1, Bool.false_eq_true, if_false, Bool.false_and]
    exact Ev.now _

/-! impl.Decimal -/
theorem decimal_eq (n : Int) (h : n.natAbs ≤ 1000000000) : impl_Decimal.f n = some (BS (Go.Lib.itoa n)) := by
  unfold impl_Decimal.f strconv_FormatInt_41.f
  rw [if_pos ⟨rfl, by omega, by omega⟩]
  rfl

/-! strings.Join -/
theorem joinB_eq {l : List (List UInt8)} {c : UInt8} (h0 : 0 < l.length) (h1 : l.length ≤ 140737488355328) (h2 : (Go.Lib.join l [c]).length ≤ 140737488355328) : strings_Join.f (l.map BS) ⟨#[c]⟩ = some (BS (Go.Lib.join l [c])) := by
  have e : (l.map BS).map (·.data.toList) = l := by
    rw [List.map_map]
    have : ((fun x : ByteArray => x.data.toList) ∘ BS) = id := funext fun x => bs_data x
    rw [this]; simp
  have e2 : (⟨#[c]⟩ : ByteArray).data.toList = [c] := rfl
  unfold strings_Join.f
  rw [if_neg (fun h => by have := congrArg List.length h; simp at this; subst this; simp at h0), e, e2, if_pos ⟨by rw [List.length_map]; exact h1, h2⟩]
  rfl

/-! impl.ListText -/
theorem ltext_l0 (l : List Int) (h1 : 1 ≤ l.length) (hl : l.length ≤ 5) (hx : ∀ x ∈ l, 0 ≤ x ∧ x ≤ 100000) : ∀ (d i : Nat), i + d = l.length → Ev (fun k => impl_ListText.l0 k (((l.take i).map Go.Lib.itoa).map BS) l (l.length : Int) (i : Int)) (BS (LTX l), true) := by
  intro d
  induction d with
  | zero =>
    intro i hi
    have hlen := ltx_len hl hx
    apply Ev.succ
    simp only [impl_ListText.l0, if_neg (show ¬ (i : Int) < (l.length : Int) by omega)]
    rw [List.take_of_length_le (by omega), joinB_eq (by rw [List.length_map]; omega) (by rw [List.length_map]; omega) (by have : (Go.Lib.join (l.map Go.Lib.itoa) [44]).length ≤ 600000 := hlen; omega)]
    exact Ev.now _
  | succ d ih =>
    intro i hi
    have hi' : i < l.length := by omega
    have hb := hx l[i] (List.getElem_mem hi')
    apply Ev.succ
    simp only [impl_ListText.l0, if_pos (show (i : Int) < (l.length : Int) by omega), if_pos (show 0 ≤ (i : Int) by omega), rd_get hi', inc hi' (by omega), decimal_eq l[i] (by omega), Option.bind_some, if_pos (show (((l.take i).map Go.Lib.itoa).map BS).length < 8796093022208 by simp; omega)]
    have := ih (i + 1) (by omega)
    rw [List.take_succ_eq_append_getElem hi', List.map_append, List.map_append] at this
    exact this
theorem ltext_ev (l : List Int) (h1 : 1 ≤ l.length) (hl : l.length ≤ 5) (hx : ∀ x ∈ l, 0 ≤ x ∧ x ≤ 100000) : Ev (fun k => impl_ListText.f k l) (BS (LTX l), true) := by
  have := ltext_l0 l h1 hl hx l.length 0 (by omega)
  unfold impl_ListText.f impl_isList.f
  have hw : (l.all fun n => decide (-1000000000 ≤ n ∧ n ≤ 1000000000)) = true := by
    rw [List.all_eq_true]
    intro x h
    have := hx x h
    simp; omega
  simp only [if_pos (show (l.length : Int) ≤ 40 by omega)]
  refine Ev.bind (Ev.bind ((areWithin_ev l (-1000000000) 1000000000 (by omega)).to hw) (Ev.now _)) ?_
  simp only [if_true, if_neg (show ¬ (l.length : Int) = 0 by omega)]
  exact this

/-! impl.rowsText -/
theorem rdl_tr {xs : List (List Int)} {i : Nat} (h : i < xs.length) : rd_L1 xs (i : Int) = xs[i] := by
  unfold rd_L1; exact getD_get h
theorem rtext_l0 (d : Int) (T : List (List Int)) (h : TOK d T) : ∀ (m i : Nat), i + m = T.length → Ev (fun k => impl_rowsText.l0 k (((T.take i).map LTX).map BS) T (T.length : Int) (i : Int)) (BS (Go.Lib.join (T.map LTX) [47])) := by
  intro m
  have hT5 := h.2.1
  induction m with
  | zero =>
    intro i hi
    have hlen := rows_len h T.length
    rw [List.take_of_length_le (Nat.le_refl _)] at hlen
    apply Ev.succ
    simp only [impl_rowsText.l0, if_neg (show ¬ (i : Int) < (T.length : Int) by omega)]
    rw [List.take_of_length_le (by omega), joinB_eq (by rw [List.length_map]; omega) (by rw [List.length_map]; omega) (by omega)]
    exact Ev.now _
  | succ m ih =>
    intro i hi
    have hi' : i < T.length := by omega
    have hr := h.2.2 T[i] (List.getElem_mem hi')
    have := ih (i + 1) (by omega)
    rw [List.take_succ_eq_append_getElem hi', List.map_append, List.map_append] at this
    apply Ev.succ
    simp only [impl_rowsText.l0, if_pos (show (i : Int) < (T.length : Int) by omega), if_pos (show 0 ≤ (i : Int) by omega), rdl_tr hi', inc hi' (by omega)]
    refine Ev.bind (ltext_ev T[i] hr.1.1 hr.1.2 hr.2) ?_
    simp only [if_pos (show (((T.take i).map LTX).map BS).length < 8796093022208 by simp; omega)]
    exact this
theorem rtext_ev (d : Int) (T : List (List Int)) (h : TOK d T) : Ev (fun k => impl_rowsText.f k T) (BS (Go.Lib.join (T.map LTX) [47])) := by
  have := rtext_l0 d T h T.length 0 (by omega)
  unfold impl_rowsText.f
  exact this

/-! laws.eqInt64S -/
theorem eq_l0 (a b : List Int) (hl : a.length = b.length) (hm : a.length ≤ 9223372036854775806) : ∀ (d i : Nat), d + i = a.length → Ev (fun k => laws_eqInt64S.l0 k a b i) (decide (a.drop i = b.drop i)) := by
  intro d
  induction d with
  | zero =>
    intro i hd
    apply Ev.succ
    simp only [laws_eqInt64S.l0, if_neg (show ¬ (i : Int) < (a.length : Int) by omega)]
    rw [List.drop_of_length_le (by omega), List.drop_of_length_le (by omega)]
    exact Ev.now _
  | succ d ih =>
    intro i hd
    have hi : i < a.length := by omega
    have hi' : i < b.length := by omega
    apply Ev.succ
    simp only [laws_eqInt64S.l0, if_pos (show (i : Int) < (a.length : Int) by omega), if_pos (show 0 ≤ (i : Int) by omega), if_pos (show (i : Int) < (b.length : Int) by omega), rd_get hi, rd_get hi', w64 (show (-9223372036854775808) ≤ (i : Int) + 1 by omega) (by omega)]
    rw [List.drop_eq_getElem_cons hi, List.drop_eq_getElem_cons hi']
    by_cases h : a[i] = b[i]
    · simp only [if_pos h]
      exact (ih (i + 1) (by omega)).to (by simp only [List.cons.injEq, h, true_and])
    · simp only [if_neg h]
      exact (Ev.now _).to (by simp only [List.cons.injEq, h, false_and, decide_false])
theorem eqInt64S_ev (a b : List Int) (hm : a.length ≤ 9223372036854775806) : Ev (fun k => laws_eqInt64S.f k a b) (decide (a = b)) := by
  unfold laws_eqInt64S.f
  by_cases h : a.length = b.length
  · simp only [if_pos (show (a.length : Int) = (b.length : Int) by omega)]
    simpa using eq_l0 a b h hm a.length 0 (by omega)
  · simp only [if_neg (show ¬ (a.length : Int) = (b.length : Int) by omega)]
    exact (Ev.now _).to (by symm; simp; intro e; exact h (by rw [e]))

/-! laws.eqInt64SS -/
theorem rdl_get3 {xs : List (List Int)} {i : Nat} (h : i < xs.length) : rd_L1 xs (i : Int) = xs[i] := by
  unfold rd_L1; exact getD_get h
theorem eqss_l0 (a b : List (List Int)) (hl : a.length = b.length) (hm : a.length ≤ 9223372036854775806) (hr : ∀ r ∈ a, r.length ≤ 9223372036854775806) : ∀ (d i : Nat), d + i = a.length → Ev (fun k => laws_eqInt64SS.l0 k a b i) (decide (a.drop i = b.drop i)) := by
  intro d
  induction d with
  | zero =>
    intro i hd
    apply Ev.succ
    simp only [laws_eqInt64SS.l0, if_neg (show ¬ (i : Int) < (a.length : Int) by omega)]
    rw [List.drop_of_length_le (by omega), List.drop_of_length_le (by omega)]
    exact Ev.now _
  | succ d ih =>
    intro i hd
    have hi : i < a.length := by omega
    have hi' : i < b.length := by omega
    apply Ev.succ
    simp only [laws_eqInt64SS.l0, if_pos (show (i : Int) < (a.length : Int) by omega), if_pos (show 0 ≤ (i : Int) by omega), if_pos (show (i : Int) < (b.length : Int) by omega), rdl_get3 hi, rdl_get3 hi', w64 (show (-9223372036854775808) ≤ (i : Int) + 1 by omega) (by omega)]
    rw [List.drop_eq_getElem_cons hi, List.drop_eq_getElem_cons hi']
    refine Ev.bind (eqInt64S_ev a[i] b[i] (hr _ (List.getElem_mem hi))) ?_
    by_cases h : a[i] = b[i]
    · simp only [decide_eq_true h, if_true]
      exact (ih (i + 1) (by omega)).to (by simp only [List.cons.injEq, h, true_and])
    · simp only [decide_eq_false h, Bool.false_eq_true, if_false]
      exact (Ev.now _).to (by simp only [List.cons.injEq, h, false_and, decide_false])
theorem eqInt64SS_ev (a b : List (List Int)) (hm : a.length ≤ 9223372036854775806) (hr : ∀ r ∈ a, r.length ≤ 9223372036854775806) : Ev (fun k => laws_eqInt64SS.f k a b) (decide (a = b)) := by
  unfold laws_eqInt64SS.f
  by_cases h : a.length = b.length
  · simp only [if_pos (show (a.length : Int) = (b.length : Int) by omega)]
    simpa using eqss_l0 a b h hm hr a.length 0 (by omega)
  · simp only [if_neg (show ¬ (a.length : Int) = (b.length : Int) by omega)]
    exact (Ev.now _).to (by symm; simp; intro e; exact h (by rw [e]))

/-! laws.eqTable -/
theorem eqTable_ev (d : Int) (l : List (List Int)) (hl : l.length ≤ 1048576) (hr : ∀ r ∈ l, r.length ≤ 1048576) : Ev (fun k => laws_eqTable.f k d l d l) true := by
  unfold laws_eqTable.f
  simp only [if_true]
  refine Ev.bind (eqInt64SS_ev l l (by omega) (fun r h => by have := hr r h; omega)) ?_
  simp only [decide_true, if_true]
  exact Ev.now _

/-! the law -/
theorem tok_of {d : Int} {T : List (List Int)} (h : VT d T = true) : TOK d T := by
  simp only [VT, rowOk, Bool.and_eq_true, decide_eq_true_eq, List.all_eq_true] at h
  obtain ⟨h1, h2, h3, h4⟩ := h
  refine ⟨h1, by omega, fun r hr => ?_⟩
  have := h4 r hr
  exact ⟨by omega, this.2⟩
theorem FnExactTableText : laws_FnExactTableText.Pure := by
  intro d l _ hl hw
  apply Ev.rounds
  unfold laws_FnExactTableText.f
  obtain ⟨s, hs, hs2⟩ := szTable_ev d l hl (fun r h => (hw r h).1) 1048576 (by omega) (by omega)
  refine Ev.bind hs ?_
  rcases hs2 with rfl | ⟨h0, h1, h2, h3⟩
  · simp only [if_pos (show (-1 : Int) < 0 by omega)]
    exact Ev.now _
  · simp only [if_neg (show ¬ s < 0 by omega)]
    have ht := toTable_ev d l h2 h3
    have both : ∃ r : ByteArray × Bool, Ev (fun k => spec_TableText.f k d l) r ∧ Ev (fun k => impl_TableText.f k d l) r := by
      unfold spec_TableText.f impl_TableText.f
      have hi : Ev (fun k => impl_ValidTable.f k d l) (VT d l) := iVT_ev d l h2 h3
      cases hv : VT d l with
      | false =>
        refine ⟨(⟨#[]⟩, false), Ev.bind ((l05Is_ev d l h2 h3).to hv) ?_, Ev.bind (hi.to hv) ?_⟩
        · simp only [Bool.false_eq_true, if_false]; exact Ev.now _
        · simp only [Bool.false_eq_true, if_false]; exact Ev.now _
      | true =>
        have hT := tok_of hv
        have hdl := itoa_len (n := d) (B := 1000) (by have := hT.1; omega)
        have hlen := rows_len hT l.length
        rw [List.take_of_length_le (Nat.le_refl _)] at hlen
        refine ⟨(BS (TTX d l), true), Ev.bind ((l05Is_ev d l h2 h3).to hv) ?_, Ev.bind (hi.to hv) ?_⟩
        · simp only [if_true]
          exact Ev.bind (l05Text_ev d l hT) (Ev.now _)
        · simp only [if_true, decimal_eq d (by have := hT.1; omega), Option.bind_some, bs_size, if_pos (show (Go.Lib.itoa d).length + 1 ≤ 9223372036854775807 by omega)]
          refine Ev.bind (rtext_ev d l hT) ?_
          simp only [show (⟨#[58]⟩ : ByteArray) = BS [58] from rfl, bs_append, bs_size, List.length_append, List.length_cons, List.length_nil, if_pos (show (Go.Lib.itoa d).length + (0 + 1) + (Go.Lib.join (l.map LTX) [47]).length ≤ 9223372036854775807 by omega)]
          exact Ev.now _
    obtain ⟨r, hsp, him⟩ := both
    refine Ev.bind ht (Ev.bind hsp (Ev.bind ht (Ev.bind him ?_)))
    simp only [if_true, bne_self_eq_false]
    apply Ev.succ
    simp only [laws_FnExactTableText.j0, Bool.false_eq_true, if_false]
    refine Ev.bind ht (Ev.bind (eqTable_ev d l h2 h3) ?_)
    simp only [if_true]
    exact Ev.now _


end Go.Proofs.YtmjabeddommiaaaDoor.Pure
