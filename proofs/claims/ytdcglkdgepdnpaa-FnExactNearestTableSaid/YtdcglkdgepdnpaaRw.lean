/- Plain words for rows over structured arguments: what a reading of whole numbers, of a list of them, of a list of lists tells. No condition. -/
import Derived.Test.YtdcglkdgepdnpaaWMore
import Derived.Deep.Matrix
import Derived.Deep.Slices
import Derived.Lib.SmallJoins
import Derived.ChangeSlices
import Derived.WalkKit
import Derived.ProofKit
import Derived.OpenShut
namespace Go.Proofs.Ytdcglkdgepdnpaa.Rw
open Go.ChangeShapes Go.WideShapes Go.RowKit Go.Deep Go.Proofs.YtdcglkdgepdnpaaW.PrintWords
set_option linter.unusedVariables false
set_option linter.unusedSimpArgs false
variable {H : Type} {enc : TypeId × Value → H} {P : Program} {w : World} {base : Nat} {held : Bool}

def IntsOk (w : World) (a : Option Addr) (cap : Nat) (l : List Int) : Prop := Kd.C (Kd.int .i64) w a l.length l ∧ l.length ≤ cap ∧ l.length ≤ 9223372036854775807 ∧ ∀ x ∈ l, (Lit.int .i64 x).wf = true
def RowsOk (e : Nat) (w : World) (a : Option Addr) (cap : Nat) (l : List (List Int)) : Prop := Kd.C (Kd.slice e (Kd.int .i64)) w a l.length l ∧ l.length ≤ cap ∧ l.length ≤ 9223372036854775807 ∧ ∀ r ∈ l, r.length ≤ 9223372036854775807 ∧ ∀ x ∈ r, (Lit.int .i64 x).wf = true

theorem maxLen_eq : maxLen = 9223372036854775807 := rfl
theorem c_ints {a : Option Addr} {len cap : Nat} {zs : List Int} (hl : len ≤ cap) (hz : zs.length = cap) (hm : cap ≤ maxLen) (hn : a = none → cap = 0) (hc : ∀ a', a = some a' → ∀ c, c < cap → w.cell? (a'.add c) = some (.int .i64 (zs.getD c 0))) (hw : ∀ n ∈ zs, (Lit.int .i64 n).wf = true) :
    (zs.take len).length = len ∧ IntsOk w a cap (zs.take len) := by
  rw [maxLen_eq] at hm
  have e : (zs.take len).length = len := by rw [List.length_take]; omega
  refine ⟨e, ?_, by omega, by omega, fun x hx => hw x (List.mem_of_mem_take hx)⟩
  rw [e]
  refine Kd.C_of_reads (d := (0 : Int)) (h1 := fun _ => rfl) ⟨e, by omega, fun hp => ?_⟩
  match a, hn, hc with
  | none, hn, _ => have := hn rfl; omega
  | some a', _, hc =>
    refine ⟨a', rfl, fun j hj => ?_⟩
    rw [hc a' rfl j (by omega)]
    congr 2
    simp [List.getD_eq_getElem?_getD, List.getElem?_take, hj]

theorem rows_cells {t e q : TypeId} {fuel : Nat} {v : Value} {x : DataW H × List MemPlace} (ht : P.underlying t = some (.slice e)) (he : P.underlying e = some (.slice q)) (hq : P.underlying q = some (.int .i64))
    (ce : P.cellsOf e = 1) (cq : P.cellsOf q = 1) (h : DataW.trod enc P w base (fun _ => true) held fuel t [v] = some x) : ∃ a cap, ∃ l : List (List Int), v = .slice a l.length cap ∧ RowsOk q w a cap l := by
  rcases open_int_rows ht he hq ce cq h with ⟨hcs, _⟩ | ⟨a, len, cap, A, L, C, Z, hcs, _, hl, hm, _, hr⟩
  · obtain rfl : v = .slice none 0 0 := by simpa using hcs
    exact ⟨none, 0, [], rfl, ⟨rfl, by simp, fun hp => absurd hp (by simp)⟩, by simp, by simp, by simp⟩
  · obtain rfl : v = .slice (some a) len cap := by simpa using hcs
    rw [maxLen_eq] at hm
    have key : ∀ r, r < cap → ((Z r).take (L r)).length = L r ∧ IntsOk w (A r) (C r) ((Z r).take (L r)) := fun r hh => by
      obtain ⟨_, h1, h2, h3, h4, h5, h6⟩ := hr r hh
      exact c_ints h1 h3 h2 h5 (fun a' ha c hc => (h6 a' ha).2 c hc) h4
    refine ⟨some a, cap, (List.range len).map fun r => (Z r).take (L r), by simp, ?_, by simpa using hl, by simp; omega, ?_⟩
    · rw [List.length_map, List.length_range]
      refine ⟨by simp, by omega, fun _ => ⟨a, rfl, fun j p hj => ?_⟩⟩
      rw [List.getElem?_map] at hj
      obtain ⟨j', hj', rfl⟩ := Option.map_eq_some_iff.1 hj
      obtain ⟨hlt, rfl⟩ := List.getElem?_eq_some_iff.1 hj'
      rw [List.length_range] at hlt
      rw [List.getElem_range]
      obtain ⟨e1, ho⟩ := key j (by omega)
      refine ⟨[.slice (A j) ((Z j).take (L j)).length (C j)], rfl, ⟨A j, C j, rfl, ho.2.1, ho.1⟩, fun i u hu => ?_⟩
      obtain ⟨hi, rfl⟩ := List.getElem?_eq_some_iff.1 hu
      have hi0 : i = 0 := by simpa using hi
      subst hi0
      rw [show j * (Kd.slice q (Kd.int .i64)).sz + 0 = j from by show j * 1 + 0 = j; omega, (hr j (by omega)).1, e1]
      rfl
    · intro r hrr
      obtain ⟨j, hj, rfl⟩ := List.mem_map.1 hrr
      rw [List.mem_range] at hj
      obtain ⟨_, ho⟩ := key j (by omega)
      exact ⟨ho.2.2.1, ho.2.2.2⟩

theorem int_cells {t : TypeId} {fuel : Nat} {v : Value} {x : DataW H × List MemPlace} {spare : Nat → Bool} (ht : P.underlying t = some (.int .i64)) (h : DataW.trod enc P w base spare held fuel t [v] = some x) : ∃ a : Int, v = .int .i64 a ∧ (Lit.int .i64 a).wf = true := by
  obtain ⟨a, e0, _, wa⟩ := DataW.trod_int ht h
  exact ⟨a, by simpa using e0, wa⟩

end Go.Proofs.Ytdcglkdgepdnpaa.Rw
