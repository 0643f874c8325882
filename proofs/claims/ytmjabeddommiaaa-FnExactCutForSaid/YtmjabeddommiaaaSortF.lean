import Derived.Test.YtmjabeddommiaaaWMore
import Derived.Shelf.SlSortCmp.Whole1
namespace Go.Proofs.YtmjabeddommiaaaW.SF
set_option linter.unusedVariables false
open Go.RowKit Go.Proofs.YtmjabeddommiaaaW.PrintWords
/-- Lexicographic comparison, as slices.Compare has it. -/
def lexc : List Int → List Int → Int
  | [], [] => 0
  | [], _ :: _ => -1
  | _ :: _, [] => 1
  | x :: xs, y :: ys => if x < y then -1 else if y < x then 1 else lexc xs ys
theorem lexc_neg : ∀ a b : List Int, lexc b a = - lexc a b
  | [], [] => rfl
  | [], _ :: _ => rfl
  | _ :: _, [] => rfl
  | x :: xs, y :: ys => by
    have ih := lexc_neg xs ys
    unfold lexc
    by_cases h1 : x < y
    · rw [if_pos h1, if_neg (by omega), if_pos h1]; rfl
    · by_cases h2 : y < x
      · rw [if_pos h2, if_neg h1, if_pos h2]
      · rw [if_neg h2, if_neg h1, if_neg h1, if_neg h2, ih]
theorem lexc_self : ∀ a : List Int, lexc a a = 0
  | [] => rfl
  | x :: xs => by unfold lexc; rw [if_neg (by omega), if_neg (by omega)]; exact lexc_self xs
theorem lexc_eq : ∀ a b : List Int, lexc a b = 0 → a = b
  | [], [], _ => rfl
  | [], _ :: _, h => by simp [lexc] at h
  | _ :: _, [], h => by simp [lexc] at h
  | x :: xs, y :: ys, h => by
    unfold lexc at h
    by_cases h1 : x < y
    · rw [if_pos h1] at h; omega
    · by_cases h2 : y < x
      · rw [if_neg h1, if_pos h2] at h; omega
      · rw [if_neg h1, if_neg h2] at h
        rw [show x = y by omega, lexc_eq xs ys h]
theorem lexc_le : ∀ a b c : List Int, lexc a b ≤ 0 → lexc b c ≤ 0 → lexc a c ≤ 0
  | [], _, [], _, _ => by simp [lexc]
  | [], _, _ :: _, _, _ => by simp [lexc]
  | _ :: _, [], _, h, _ => by simp [lexc] at h
  | _ :: _, _ :: _, [], _, h => by simp [lexc] at h
  | x :: xs, y :: ys, z :: zs, h, k => by
    have ih := lexc_le xs ys zs
    unfold lexc at h k ⊢
    by_cases h1 : x < z
    · rw [if_pos h1]; omega
    · by_cases h2 : x < y
      · rw [if_neg (show ¬ y < z by omega), if_pos (show z < y by omega)] at k; omega
      · by_cases h3 : y < x
        · rw [if_neg h2, if_pos h3] at h; omega
        · have e : x = y := by omega
          subst e
          rw [if_neg h2, if_neg h3] at h
          by_cases h4 : z < x
          · rw [if_neg h1, if_pos h4] at k; omega
          · rw [if_neg h1, if_neg h4] at k ⊢
            exact ih h k
def lexle (a b : List Int) : Bool := decide (lexc a b ≤ 0)
def lins (a : List Int) : List (List Int) → List (List Int)
  | [] => [a]
  | b :: l => if lexle a b then a :: b :: l else b :: lins a l
def lsort : List (List Int) → List (List Int)
  | [] => []
  | a :: l => lins a (lsort l)
theorem lins_perm (a : List Int) : ∀ l, (lins a l).Perm (a :: l)
  | [] => List.Perm.refl _
  | b :: l => by
    unfold lins
    split
    · exact List.Perm.refl _
    · exact ((lins_perm a l).cons b).trans (List.Perm.swap a b l)
theorem lsort_perm : ∀ l, (lsort l).Perm l
  | [] => List.Perm.refl _
  | a :: l => (lins_perm a (lsort l)).trans ((lsort_perm l).cons a)
theorem lins_sorted (a : List Int) : ∀ l : List (List Int), l.Pairwise (fun x y => lexc x y ≤ 0) → (lins a l).Pairwise (fun x y => lexc x y ≤ 0)
  | [], _ => List.pairwise_singleton _ _
  | b :: l, h => by
    have hb := List.pairwise_cons.1 h
    unfold lins
    split
    · rename_i c
      have c : lexc a b ≤ 0 := of_decide_eq_true c
      refine List.pairwise_cons.2 ⟨fun x hx => ?_, h⟩
      rcases List.mem_cons.1 hx with rfl | hx
      · exact c
      · exact lexc_le a b x c (hb.1 x hx)
    · rename_i c
      have c : ¬ lexc a b ≤ 0 := fun e => c (decide_eq_true e)
      refine List.pairwise_cons.2 ⟨fun x hx => ?_, lins_sorted a l hb.2⟩
      rcases List.mem_cons.1 ((lins_perm a l).mem_iff.1 hx) with rfl | hx
      · rw [lexc_neg]; omega
      · exact hb.1 x hx
theorem lsort_sorted : ∀ l, (lsort l).Pairwise (fun x y => lexc x y ≤ 0)
  | [] => List.Pairwise.nil
  | a :: l => lins_sorted a _ (lsort_sorted l)
theorem lsort_uniq {l l' : List (List Int)} (hp : l'.Perm l) (hs : ∀ i j, i < j → j < l'.length → decide (lexc (l'.getD j []) (l'.getD i []) < 0) = false) : l' = lsort l := by
  refine List.Perm.eq_of_pairwise (le := fun x y => lexc x y ≤ 0) (fun a b _ _ h k => lexc_eq a b ?_) ?_ (lsort_sorted l) (hp.trans (lsort_perm l).symm)
  · have := lexc_neg a b; omega
  · rw [List.pairwise_iff_getElem]
    intro i j hi hj hij
    have := of_decide_eq_false (hs i j hij hj)
    rw [show l'.getD j [] = l'[j] by simp [List.getD_eq_getElem?_getD, hj], show l'.getD i [] = l'[i] by simp [List.getD_eq_getElem?_getD, hi], lexc_neg] at this
    omega
theorem lexc_swo : Sort.SWO (ltOf lexc) := by
  refine ⟨fun x => ?_, fun x y z h k => ?_, fun x y z h k => ?_⟩
  · unfold ltOf; rw [lexc_self]; rfl
  · unfold ltOf at h k ⊢
    have h := of_decide_eq_true h
    have k := of_decide_eq_true k
    have a := lexc_le x y z (by omega) (by omega)
    refine decide_eq_true ?_
    by_cases c : lexc x z = 0
    · have e := lexc_eq x z c
      subst e
      have := lexc_neg x y
      omega
    · omega
  · unfold ltOf at h k ⊢
    have h := of_decide_eq_false h
    have k := of_decide_eq_false k
    have a := lexc_le z y x (by rw [lexc_neg]; omega) (by rw [lexc_neg]; omega)
    have := lexc_neg z x
    exact decide_eq_false (by omega)
theorem sf_pull {α β : Type} (f : β → α) {lt : α → α → Bool} (h : Sort.SWO lt) : Sort.SWO (fun x y => lt (f x) (f y)) := ⟨fun x => h.irrefl _, fun x y z => h.trans _ _ _, fun x y z => h.ntrans _ _ _⟩
/-- Place j of a row of cells. -/
def sfE (inner : List Value) (j : Nat) : Value := inner.getD j (.slice none 0 0)
theorem sf_holds {w : World} {g e : Nat} {cur : Array Value} {inner : List Value} (hb : w.heap[g]? = some (.cells cur e (0, 0))) (ht : cur.toList.take inner.length = inner) : Sort.Holds (sfE inner) w g 0 (Array.range inner.length) := by
  intro j hj
  have hj' : j < inner.length := by simpa using hj
  refine ⟨?_, by simp [World.frozen?, hb]⟩
  have h1 : (cur.toList.take inner.length)[j]? = inner[j]? := by rw [ht]
  rw [List.getElem?_take_of_lt hj'] at h1
  simp only [World.cell?, hb, Nat.zero_add]
  simp only [Option.isSome_none, Bool.false_eq_true, if_false]
  rw [← Array.getElem?_toList, h1]
  simp [sfE, hj']
theorem sf_heap {w : World} {g n e : Nat} {os : Array Obj} {cur : Array Value} (enc : Nat → Value) (d : Array Nat) (hb : w.heap[g]? = some (.cells cur e (0, 0))) : (Sort.grow (Sort.putRow enc (Sort.ahead w n) g 0 d) os).heap[g]? = some (.cells (Sort.putCells enc 0 d cur) e (0, 0)) := by
  have hg : g < w.heap.size := (Array.getElem?_eq_some_iff.1 hb).1
  rw [Sort.heap_grow_old _ _ (by simpa using hg)]
  simp [Sort.putRow, Sort.mapBlock, Sort.ahead, Array.getElem?_modify, hb, Sort.onCells]
theorem sf_other {w : World} {g n k : Nat} {os : Array Obj} (enc : Nat → Value) (d : Array Nat) (hk : k < w.heap.size) (hne : k ≠ g) : (Sort.grow (Sort.putRow enc (Sort.ahead w n) g 0 d) os).heap[k]? = w.heap[k]? := by
  rw [Sort.heap_grow_old _ _ (by simpa using hk)]
  have : g ≠ k := fun e => hne e.symm
  simp [Sort.putRow, Sort.mapBlock, Sort.ahead, Array.getElem?_modify, this]
theorem sf_grown {w : World} {g n : Nat} {os : Array Obj} (enc : Nat → Value) (d : Array Nat) : w.grownBy (Sort.grow (Sort.putRow enc (Sort.ahead w n) g 0 d) os) (some g) :=
  ⟨rfl, rfl, rfl, by simp, fun k hk hne => sf_other enc d hk (fun e => hne (by rw [e]))⟩
theorem sf_take (cur : Array Value) (enc : Nat → Value) (d : Array Nat) (h : d.size ≤ cur.size) : (Sort.putCells enc 0 d cur).toList.take d.size = d.toList.map enc := by
  apply List.ext_getElem?
  intro j
  by_cases hj : j < d.size
  · rw [List.getElem?_take_of_lt hj, Array.getElem?_toList]
    simp [Sort.putCells, hj, show j < cur.size by omega]
  · rw [List.getElem?_take_eq_none (by omega), List.getElem?_eq_none (by simp; omega)]
/-- slices.SortFunc at a row of rows of integers, each row its own. -/
theorem sf_S {P : Program} {ρ : Go.Shelf.Ren} (L : SlLaysF.n6 P ρ) (gc : Nat) (eg : ∀ args w, (callFunc gc args).run P w = .ok (.enter gc args) w) (cf : List Int → List Int → Int) (hO : Sort.SWO (ltOf cf))
    (hc : ∀ (W : World) (x y : List Int) (A A' : Option Addr) (c c' : Nat), (Kd.int .i64).C W A x.length x → x.length ≤ c → (Kd.int .i64).C W A' y.length y → y.length ≤ c' → Calls P gc #[.slice A x.length c, .slice A' y.length c'] W fun r w' => r = .returned (.int .i64 (cf x y)) ∧ ∃ q, w' = W.drewN q)
    {e2 e : Nat} {w : World} {base : Nat} {ok : Nat → Prop} {u : Value} {l : List (List Int)} (h : Kd.S (Kd.slice e2 (Kd.int .i64)) e w base ok u l) (hne : 0 < l.length) (hsz : l.length < 4611686018427387904) :
    Calls P (ρ.f 6) #[u, .func (.func gc) #[] #[]] w fun r w' => r = .returned (.tuple #[]) ∧ ∃ l' : List (List Int), l'.Perm l ∧ (∀ i j, i < j → j < l'.length → ltOf cf (l'.getD j []) (l'.getD i []) = false) ∧ Kd.S (Kd.slice e2 (Kd.int .i64)) e w' base ok u l' ∧ w.grownBy w' u.ownBlock := by
  obtain ⟨f, h0, inner, ho, hr⟩ := h
  have hlen : inner.length = l.length := by have := hr.1; simpa [Kd.tag, Kd.slice] using this
  rcases ho.2 with ⟨_, hz⟩ | ⟨g, cap, cur, rfl, hg, hb, h1, h2, h3, h4⟩
  · rw [List.length_zipIdx] at hz; omega
  simp only [Kd.tag, Kd.slice, Nat.mul_one, List.length_zipIdx] at h1 h3 h4
  have hgl : g < w.heap.size := (Array.getElem?_eq_some_iff.1 hb).1
  have ht : cur.toList.take inner.length = inner := by rw [hlen]; exact h4
  have hM : ∀ j (hj : j < l.length), ∃ v, sfE inner j = v ∧ (Kd.int .i64).R e2 w base (fun k => ((ok k ∧ some k ≠ (Value.slice (some ⟨g, 0, none⟩) l.length cap).ownBlock) ∧ f k = j)) v l[j] := by
    intro j hj
    have := hr.2 j (l[j], j) (Kd.zip_at (List.getElem?_eq_getElem hj))
    obtain ⟨v, hv, hR⟩ := this
    refine ⟨v, ?_, by simpa using hR⟩
    have hx : (inner.drop (j * 1)).take 1 = [v] := hv
    rw [Nat.mul_one, List.drop_eq_getElem_cons (show j < inner.length by omega)] at hx
    injection hx with hx _
    simp [sfE, List.getD_eq_getElem?_getD, show j < inner.length by omega, hx]
  -- what every world of the sort's reads
  have hread : ∀ (m : Nat) (os : Array Obj) (dk : Array Nat) (j : Nat), ∃ A c, sfE inner j = .slice A (l.getD j []).length c ∧ (l.getD j []).length ≤ c ∧ (Kd.int .i64).C (sortWorld (sfE inner) w g 0 m dk os) A (l.getD j []).length (l.getD j []) := by
    intro m os dk j
    by_cases hj : j < l.length
    · obtain ⟨v, hv, hR⟩ := hM j hj
      have hR2 : (Kd.int .i64).R e2 (sortWorld (sfE inner) w g 0 m dk os) base _ v l[j] := Kd.R_step hR (fun k hk hlt => sf_other _ _ hlt (fun e => hk.1.2 (by simp [Value.ownBlock, e])))
      obtain ⟨A, c, e1, e2', e3⟩ := Kd.R_reads hR2
      have : l.getD j [] = l[j] := by simp [List.getD_eq_getElem?_getD, hj]
      rw [this]
      exact ⟨A, c, by rw [hv, e1], e2', e3⟩
    · have : l.getD j [] = [] := by simp [List.getD_eq_getElem?_getD, show l.length ≤ j by omega]
      rw [this]
      obtain ⟨A, c, e1, e2', e3⟩ := Kd.R_reads (Kd.R_nil (Kd.int .i64) e2 (sortWorld (sfE inner) w g 0 m dk os) base (fun _ => True))
      refine ⟨A, c, ?_, e2', e3⟩
      rw [← e1]
      simp [sfE, List.getD_eq_getElem?_getD, show inner.length ≤ j by omega]
  have hcmp : CmpReads P gc #[] (sfE inner) (fun i j => cf (l.getD i []) (l.getD j [])) g 0 (Array.range inner.length).size w := by
    intro m os dk _ x y
    obtain ⟨A, c, e1, e2', e3⟩ := hread m os dk x
    obtain ⟨A', c', f1, f2, f3⟩ := hread m os dk y
    rw [e1, f1]
    exact hc _ _ _ A A' c c' e3 e2' f3 f2
  have h1c : OneCell (sfE inner) := by
    intro j
    obtain ⟨A, c, e1, _⟩ := hread 0 #[] #[] j
    rw [e1]; rfl
  have hsize : (Array.range inner.length).size = l.length := by simp [hlen]
  have key := Any.slices_SortFunc L (sfE inner) h1c (fun i j => cf (l.getD i []) (l.getD j [])) (sf_pull (fun i => l.getD i []) hO) gc #[] g 0 cap (Array.range inner.length) w eg hcmp.lays (sf_holds hb ht) hgl (by rw [hsize]; exact hsz)
  rw [hsize] at key
  refine (show Calls P (ρ.f 6) #[.slice (some ⟨g, 0, none⟩) l.zipIdx.length cap, .func (.func gc) #[] #[]] w _ from by rw [List.length_zipIdx]; exact key).mono ?_
  rintro r w' ⟨rfl, d', n, os, hp, hsrt, rfl⟩
  obtain ⟨p1, p2, p3⟩ := hp
  have ds : d'.size = l.length := by rw [p1, hsize]
  have hperm : d'.toList.Perm (List.range l.length) := by
    have := p3
    rw [← hsize] at this
    have t1 : List.take l.length d'.toList = d'.toList := List.take_of_length_le (by simp [ds])
    simpa [ds, hlen, t1] using this
  have hin : ∀ x ∈ d'.toList, x < l.length := fun x hx => List.mem_range.1 (hperm.mem_iff.1 hx)
  have hgr := sf_grown (w := w) (g := g) (n := n) (os := os) (sfE inner) d'
  refine ⟨rfl, d'.toList.map fun i => l.getD i [], ?_, ?_, ?_, hgr⟩
  · have : (List.range l.length).map (fun i => l.getD i []) = l := by
      apply List.ext_getElem
      · simp
      · intro i a b; simp [List.getD_eq_getElem?_getD, show i < l.length by omega]
    exact (hperm.map _).trans (by rw [this])
  · intro i j hij hj
    have hj' : j < d'.size := by simpa using hj
    have := hsrt i j (Nat.zero_le _) hij (by omega)
    have gi : ∀ q, q < d'.size → (d'.toList.map fun i => l.getD i []).getD q [] = l.getD d'[q]! [] := by
      intro q hq
      rw [List.getD_eq_getElem?_getD, List.getElem?_map, Array.getElem?_toList, Array.getElem?_eq_getElem hq]
      simp [hq]
    rw [gi j hj', gi i (by omega)]
    exact this
  · -- the rows stand in another order
    have hnd : d'.toList.Nodup := hperm.nodup_iff.2 List.nodup_range
    refine ⟨fun k => d'.toList.idxOf (f k), h0, d'.toList.map (sfE inner), ⟨?_, .inr ⟨g, cap, _, ?_, hg, sf_heap _ _ hb, ?_, h2, ?_, ?_⟩⟩, ?_, ?_⟩
    · simp [Kd.tag, Kd.slice]
    · simp [ds]
    · simp [ds]; omega
    · simp [Sort.putCells, h3, Kd.tag, Kd.slice]
    · have : d'.size ≤ cur.size := by omega
      have := sf_take cur (sfE inner) d' this
      simpa [Kd.tag, Kd.slice] using this
    · simp [Kd.tag, Kd.slice]
    · intro j p hj
      have hj' : j < d'.toList.length := by
        have := (List.getElem?_eq_some_iff.1 hj).1
        simpa using this
      have hjp : p = (l.getD d'.toList[j] [], j) := by
        have := Kd.zip_at (xs := d'.toList.map fun i => l.getD i []) (j := j) (p := l.getD d'.toList[j] []) (by rw [List.getElem?_map, List.getElem?_eq_getElem hj']; rfl)
        rw [this] at hj
        exact (Option.some.inj hj).symm
      subst hjp
      have hd := hin d'.toList[j] (List.getElem_mem hj')
      obtain ⟨v, hv, hR⟩ := hM d'.toList[j] hd
      refine ⟨v, ?_, ?_⟩
      · show ((d'.toList.map (sfE inner)).drop (j * 1)).take 1 = [v]
        rw [Nat.mul_one, List.drop_eq_getElem_cons (show j < (d'.toList.map (sfE inner)).length by simpa using hj')]
        simp only [List.take_succ_cons, List.take_zero, List.getElem_map]
        rw [hv]
      · have : l.getD d'.toList[j] [] = l[d'.toList[j]] := by rw [List.getD_eq_getElem?_getD, List.getElem?_eq_getElem hd]; rfl
        show (Kd.int .i64).R e2 _ base _ v (l.getD d'.toList[j] [])
        rw [this]
        refine Kd.R_mono (Kd.R_step hR (fun k hk hlt => sf_other _ _ hlt (fun e => hk.1.2 (by simp [Value.ownBlock, e])))) (fun k hk => ⟨?_, ?_⟩)
        · simpa using hk.1
        · show d'.toList.idxOf (f k) = j
          rw [hk.2]
          exact hnd.idxOf_getElem j hj'
/-- The same by slices.Compare: the rows stand in lexicographic order behind it. -/
theorem sf_lex {P : Program} {ρ : Go.Shelf.Ren} (L : SlLaysF.n6 P ρ) (gc : Nat) (eg : ∀ args w, (callFunc gc args).run P w = .ok (.enter gc args) w)
    (hc : ∀ (W : World) (x y : List Int) (A A' : Option Addr) (c c' : Nat), (Kd.int .i64).C W A x.length x → x.length ≤ c → (Kd.int .i64).C W A' y.length y → y.length ≤ c' → Calls P gc #[.slice A x.length c, .slice A' y.length c'] W fun r w' => r = .returned (.int .i64 (lexc x y)) ∧ ∃ q, w' = W.drewN q)
    {e2 e : Nat} {w : World} {base : Nat} {ok : Nat → Prop} {u : Value} {l : List (List Int)} (h : Kd.S (Kd.slice e2 (Kd.int .i64)) e w base ok u l) (hne : 0 < l.length) (hsz : l.length < 4611686018427387904) :
    Calls P (ρ.f 6) #[u, .func (.func gc) #[] #[]] w fun r w' => r = .returned (.tuple #[]) ∧ Kd.S (Kd.slice e2 (Kd.int .i64)) e w' base ok u (lsort l) ∧ w.grownBy w' u.ownBlock := by
  refine (sf_S L gc eg lexc lexc_swo hc h hne hsz).mono ?_
  rintro r w' ⟨rfl, l', hp, hs, hS, hg⟩
  rw [lsort_uniq hp hs] at hS
  exact ⟨rfl, hS, hg⟩
/-- An element that is a row of integers, in a block of its own from its beginning. -/
def ownS (e : Nat) : Kd (List Int) := { Kd.slice e (Kd.int .i64) with
  K := fun w x cs => ∃ v, cs = [v] ∧ (Kd.int .i64).R e w 0 (fun _ => True) v x
  K_len := by rintro w x cs ⟨v, rfl, _⟩; rfl
  K_one := by
    rintro w x cs ⟨v, rfl, h⟩ u hu
    rw [List.mem_singleton.1 hu]
    obtain ⟨A, c, rfl⟩ := Kd.R_slice h
    rfl
  K_below := by rintro w w1 x cs hb ⟨v, rfl, h⟩; exact ⟨v, rfl, Kd.R_below h hb⟩
  K_of_M := by rintro w base ok x cs ⟨v, rfl, h⟩; exact ⟨v, rfl, Kd.R_mono (Kd.R_lower h (Nat.zero_le _)) (fun _ _ => trivial)⟩ }
section
variable {e n : Nat} {w W : World} {x : List Int} {cs : List Value} {v : Value} {ok : Nat → Prop} {base : Nat} {A : Option Addr} {xs : List (List Int)}
theorem ownS_K (h : (ownS e).K w x cs) : (Kd.slice e (Kd.int .i64)).K w x cs := by
  obtain ⟨v, rfl, h⟩ := h
  obtain ⟨A, c, rfl, hl, hc⟩ := Kd.R_reads h
  exact ⟨A, c, rfl, hl, hc⟩
theorem ownS_C (h : (ownS e).C w A n xs) : (Kd.slice e (Kd.int .i64)).C w A n xs := ReadsRow.imp_ h (Below.refl _ _) (fun _ _ hp => ownS_K hp)
theorem ownS_FK (h : Kd.FK (ownS e) W ok x cs) : Kd.FK (Kd.slice e (Kd.int .i64)) W ok x cs := fun W' hW => ownS_K (h W' hW)
theorem ownS_mk (h : (Kd.int .i64).R e W base ok v x) : Kd.FK (ownS e) W ok x [v] := Kd.FK_of_M (d := ownS e) ⟨v, rfl, h⟩
theorem ownS_R (h : Kd.FK (ownS e) W ok x [v]) (hb : ∀ k, ok k → base ≤ k) : (Kd.int .i64).R e W base ok v x := by
  obtain ⟨v', hv, hR⟩ := Kd.FK_now h
  injection hv with hv _
  subst hv
  have hok : ∀ k, v.ownBlock = some k → ok k := by
    intro k hk
    refine Classical.byContradiction fun hno => ?_
    obtain ⟨cells, hc⟩ := Kd.R_typed hR k hk
    obtain ⟨v2, hv2, hR2⟩ := h { W with heap := W.heap.setIfInBounds k (.cells #[] (e + 1) (0, 0)) } (fun j hj _ => by
      have : k ≠ j := fun e => hno (e ▸ hj)
      simp [this])
    injection hv2 with hv2 _
    subst hv2
    obtain ⟨cells2, hc2⟩ := Kd.R_typed hR2 k hk
    have hlt : k < W.heap.size := (Array.getElem?_eq_some_iff.1 hc).1
    simp [hlt] at hc2
  have hR3 := Kd.R_reok (ok := ok) rfl hR hok
  exact Kd.R_raise (d := Kd.int .i64) (b := 0) (b' := base) (fun _ _ _ _ h_ => h_) hR3 (fun k hk => hb k (hok k hk))
end
/-- Two rows of rows that are made one after the other lead to different blocks. -/
theorem cutN {α β : Type} {d : Kd α} {d' : Kd β} {e e' base base' b : Nat} {ok : Nat → Prop} {W w1 : World} {u v : Value} {xs : List α} {ys : List β} (hb0 : b ≤ W.heap.size) (h1 : Kd.N d e W base ok u xs) (h2 : Kd.N d' e' w1 base' (fun k => W.heap.size ≤ k) v ys) (hb : Below W.heap.size W w1) :
    ∃ B, Kd.N d e w1 base (fun k => ok k ∧ k < B) u xs ∧ Kd.N d' e' w1 base' (fun k => b ≤ k ∧ B ≤ k) v ys := ⟨W.heap.size, Kd.N_below (Kd.N_bound h1) hb, Kd.N_mono h2 (fun _ hk => ⟨Nat.le_trans hb0 hk, hk⟩)⟩
end Go.Proofs.YtmjabeddommiaaaW.SF
