/- What a text's reading asks of package-level variables, and that it stays. The conditions stand in each lemma. -/
import Derived.Test.YtknopokgbechlaaDoorWMore
import Derived.Test.YtknopokgbechlaaDoorProg
import Derived.Shelf.Strconv.Itoa4
import Derived.Shelf.Strconv.ErrVarParseInt
import Derived.Shelf.Strings.Split
import Derived.Shelf.Strings.Cut
namespace Go.Proofs.YtknopokgbechlaaDoorW.PrintWords
open Go.RowKit Go.Proofs.YtknopokgbechlaaDoorW.PrintWords Go.Proofs.YtknopokgbechlaaDoorW.PrintLast Go.Proofs.YtknopokgbechlaaDoorW.PrintMore
/-- The table of powers of ten, the two errors and the greatest length lie as the program lays them. -/
structure TAB (w : World) : Prop where
  pow : Lib.TabIs Tryd.prog w "internal/strconv.uint64pow10" .u64 Lib.pow10Tab
  syn : ∃ tp p, w.var? Tryd.prog "strconv.ErrSyntax" = some #[.iface tp p]
  rng : ∃ tp p, w.var? Tryd.prog "strconv.ErrRange" = some #[.iface tp p]
  max : ∃ m, w.cell? ⟨0, 0, none⟩ = some (.int .i64 m)
theorem var_keep {P : Program} {n : String} {w w' : World} {cs : Array Value} (h : w.var? P n = some cs) (hb : Below w.heap.size w w') : w'.var? P n = some cs := by
  unfold World.var? at h ⊢
  cases hg : P.globalNamed n with
  | none => rw [hg] at h; cases h
  | some g =>
    rw [hg] at h
    simp only [Option.bind_some] at h ⊢
    have hlt : g < w.heap.size := by
      rcases Nat.lt_or_ge g w.heap.size with h' | h'
      · exact h'
      · rw [Array.getElem?_eq_none h'] at h; cases h
    rw [hb.block g hlt]
    exact h
theorem TAB.keep {w w' : World} (h : TAB w) (hb : Below w.heap.size w w') : TAB w' where
  pow := by
    have h := h.pow
    unfold Lib.TabIs at h ⊢
    exact var_keep h hb
  syn := let ⟨a, b, c⟩ := h.syn; ⟨a, b, var_keep c hb⟩
  rng := let ⟨a, b, c⟩ := h.rng; ⟨a, b, var_keep c hb⟩
  max := let ⟨m, c⟩ := h.max; ⟨m, (hb.cell (World.block_lt_of_cell? w _ c)).trans c⟩
theorem R_strs (W : World) (xs : List ByteArray) (e : TypeId) (hm : xs.length ≤ 9223372036854775807) : Kd.R Kd.string e (W.alloc (.cells (xs.map Value.string).toArray e)) W.heap.size (fun _ => True) (.slice (some ⟨W.heap.size, 0, none⟩) xs.length xs.length) xs := by
  refine ⟨fun _ _ => trivial, xs.map Value.string, ?_, ?_⟩
  · have h2 := World.ownsRow_lit (base := W.heap.size) (e := e) (size := 1) W (xs.map Value.string).toArray xs.length (Nat.le_refl _) (by simpa [maxLen] using hm) (by simp)
    have h1 : (Kd.string).sz = 1 := rfl
    rw [h1]
    simpa using h2
  · refine ⟨by simp [Kd.string, Kd.scalar], fun j p hj => ?_⟩
    show _ = [Value.string p]
    have h1 : (Kd.string).sz = 1 := rfl
    rw [h1, Nat.mul_one]
    have hj' : j < xs.length := by
      rcases Nat.lt_or_ge j xs.length with h | h
      · exact h
      · rw [List.getElem?_eq_none h] at hj; cases hj
    rw [List.getElem?_eq_getElem hj'] at hj
    injection hj with hj
    subst hj
    rw [List.drop_eq_getElem_cons (by simpa using hj')]
    simp
end Go.Proofs.YtknopokgbechlaaDoorW.PrintWords
