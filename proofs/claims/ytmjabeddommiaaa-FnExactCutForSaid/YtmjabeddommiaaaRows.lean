/-
  No cell of these rows narrows 'for every input' (looked for: loops, veiled, ifaces, maps, wideKeys, modest, calm, conditions, laid).
  DERIVED. THE GIVEN ROWS OF THIS SEAT. 10 by the template 'for every input the law returns true; each argument reads behind the call as it read before'; 0 by the template 'total and deterministic' (their statements: YtmjabeddommiaaaTotals.lean).
  GIVEN WITH THE SEED: the statements are not yours to turn. If you find one false, say at which input.
  Laid BY PROGRAM, IN A SANDBOX (cutbox-rows.mjs): the forced cells as the released guide's own fill.sh prints them over the translation 3e0e6095b7846985… (all of the seat's roots in one cut). By AI agents, Wed Nov 11 2026. No macro, syntax, notation, axiom, sorry.
-/
import Derived.Test.YtmjabeddommiaaaChecked
import GoSem.Claim
import GoSem.ClaimJoined
import GoSem.ClaimMapViews
import Derived.JoinedTies
import Derived.KernelRfl
namespace Go.Proofs.Ytmjabeddommiaaa
/- THE CELL 'sum', in the pinned program and in every row, IS THE sha256 OF THE DUMP (.gsa) THAT YtmjabeddommiaaaProg.lean LOADS. Nothing in Lean hashes anything: it is a label: what it is worth is what the hold of that sum in a sandbox is worth. -/
noncomputable def Try.pinned : Pinned := { name := "ytmjabeddommiaaa", sum := "3e0e6095b7846985fab56e544cbb5b058cf699c2562a6e8dcdd802a08d0c761d", checked := Try.checked }
namespace Rows
def none {H : Type} : Left H := { results := [], args := [] }

/-- 'laws.FnExactRowSums': WHATEVER THE INPUT: true; the input reads as it did. -/
def fnExactRowSumsSpec : ChangeSpec := { name := "fnExactRowSums", fn := fun _ => fun
  | [d] => { results := [.lit (.bool true)], args := [d] }
  | _ => none }
def fnExactRowSumsRow : OpenClaim := { program := "ytmjabeddommiaaa", sum := "3e0e6095b7846985fab56e544cbb5b058cf699c2562a6e8dcdd802a08d0c761d", func := "loop.example/g01129/laws.FnExactRowSums", spec := "fnExactRowSums", unfollowed := true, recurses := true, apart := false }
def FnExactRowSumsSaid : Prop := fnExactRowSumsRow.holds Try.pinned (OpenSpec.ofChange fnExactRowSumsSpec)

/-- ITS FALSE NEIGHBOUR: 'it returns false'. Refute it at one input. -/
def fnExactRowSumsWrong : ChangeSpec := { name := "fnExactRowSums", fn := fun _ => fun
  | [d] => { results := [.lit (.bool false)], args := [d] }
  | _ => none }
def FnExactRowSumsWrongFalsely : Prop := fnExactRowSumsRow.holds Try.pinned (OpenSpec.ofChange fnExactRowSumsWrong)

/-- 'laws.FnExactColumnSums': WHATEVER THE INPUT: true; the input reads as it did. -/
def fnExactColumnSumsSpec : ChangeSpec := { name := "fnExactColumnSums", fn := fun _ => fun
  | [d] => { results := [.lit (.bool true)], args := [d] }
  | _ => none }
def fnExactColumnSumsRow : OpenClaim := { program := "ytmjabeddommiaaa", sum := "3e0e6095b7846985fab56e544cbb5b058cf699c2562a6e8dcdd802a08d0c761d", func := "loop.example/g01129/laws.FnExactColumnSums", spec := "fnExactColumnSums", unfollowed := true, recurses := true, apart := false }
def FnExactColumnSumsSaid : Prop := fnExactColumnSumsRow.holds Try.pinned (OpenSpec.ofChange fnExactColumnSumsSpec)

/-- ITS FALSE NEIGHBOUR: 'it returns false'. Refute it at one input. -/
def fnExactColumnSumsWrong : ChangeSpec := { name := "fnExactColumnSums", fn := fun _ => fun
  | [d] => { results := [.lit (.bool false)], args := [d] }
  | _ => none }
def FnExactColumnSumsWrongFalsely : Prop := fnExactColumnSumsRow.holds Try.pinned (OpenSpec.ofChange fnExactColumnSumsWrong)

/-- 'laws.FnExactIsTableRounding': WHATEVER THE INPUT: true; the input reads as it did. -/
def fnExactIsTableRoundingSpec : ChangeSpec := { name := "fnExactIsTableRounding", fn := fun _ => fun
  | [d1, d2] => { results := [.lit (.bool true)], args := [d1, d2] }
  | _ => none }
def fnExactIsTableRoundingRow : OpenClaim := { program := "ytmjabeddommiaaa", sum := "3e0e6095b7846985fab56e544cbb5b058cf699c2562a6e8dcdd802a08d0c761d", func := "loop.example/g01129/laws.FnExactIsTableRounding", spec := "fnExactIsTableRounding", unfollowed := true, recurses := true, apart := false }
def FnExactIsTableRoundingSaid : Prop := fnExactIsTableRoundingRow.holds Try.pinned (OpenSpec.ofChange fnExactIsTableRoundingSpec)

/-- ITS FALSE NEIGHBOUR: 'it returns false'. Refute it at one input. -/
def fnExactIsTableRoundingWrong : ChangeSpec := { name := "fnExactIsTableRounding", fn := fun _ => fun
  | [d1, d2] => { results := [.lit (.bool false)], args := [d1, d2] }
  | _ => none }
def FnExactIsTableRoundingWrongFalsely : Prop := fnExactIsTableRoundingRow.holds Try.pinned (OpenSpec.ofChange fnExactIsTableRoundingWrong)

/-- 'laws.FnExactIsMarginRounding': WHATEVER THE INPUT: true; the input reads as it did. -/
def fnExactIsMarginRoundingSpec : ChangeSpec := { name := "fnExactIsMarginRounding", fn := fun _ => fun
  | [d1, d2, d3, d4] => { results := [.lit (.bool true)], args := [d1, d2, d3, d4] }
  | _ => none }
def fnExactIsMarginRoundingRow : OpenClaim := { program := "ytmjabeddommiaaa", sum := "3e0e6095b7846985fab56e544cbb5b058cf699c2562a6e8dcdd802a08d0c761d", func := "loop.example/g01129/laws.FnExactIsMarginRounding", spec := "fnExactIsMarginRounding", unfollowed := true, recurses := true, apart := false }
def FnExactIsMarginRoundingSaid : Prop := fnExactIsMarginRoundingRow.holds Try.pinned (OpenSpec.ofChange fnExactIsMarginRoundingSpec)

/-- ITS FALSE NEIGHBOUR: 'it returns false'. Refute it at one input. -/
def fnExactIsMarginRoundingWrong : ChangeSpec := { name := "fnExactIsMarginRounding", fn := fun _ => fun
  | [d1, d2, d3, d4] => { results := [.lit (.bool false)], args := [d1, d2, d3, d4] }
  | _ => none }
def FnExactIsMarginRoundingWrongFalsely : Prop := fnExactIsMarginRoundingRow.holds Try.pinned (OpenSpec.ofChange fnExactIsMarginRoundingWrong)

/-- 'laws.FnExactIsCut': WHATEVER THE INPUT: true; the input reads as it did. -/
def fnExactIsCutSpec : ChangeSpec := { name := "fnExactIsCut", fn := fun _ => fun
  | [d1, d2, d3, d4, d5] => { results := [.lit (.bool true)], args := [d1, d2, d3, d4, d5] }
  | _ => none }
def fnExactIsCutRow : OpenClaim := { program := "ytmjabeddommiaaa", sum := "3e0e6095b7846985fab56e544cbb5b058cf699c2562a6e8dcdd802a08d0c761d", func := "loop.example/g01129/laws.FnExactIsCut", spec := "fnExactIsCut", unfollowed := true, recurses := true, apart := false }
def FnExactIsCutSaid : Prop := fnExactIsCutRow.holds Try.pinned (OpenSpec.ofChange fnExactIsCutSpec)

/-- ITS FALSE NEIGHBOUR: 'it returns false'. Refute it at one input. -/
def fnExactIsCutWrong : ChangeSpec := { name := "fnExactIsCut", fn := fun _ => fun
  | [d1, d2, d3, d4, d5] => { results := [.lit (.bool false)], args := [d1, d2, d3, d4, d5] }
  | _ => none }
def FnExactIsCutWrongFalsely : Prop := fnExactIsCutRow.holds Try.pinned (OpenSpec.ofChange fnExactIsCutWrong)

/-- 'laws.FnExactCountTables': WHATEVER THE INPUT: true; the input reads as it did. -/
def fnExactCountTablesSpec : ChangeSpec := { name := "fnExactCountTables", fn := fun _ => fun
  | [d] => { results := [.lit (.bool true)], args := [d] }
  | _ => none }
def fnExactCountTablesRow : OpenClaim := { program := "ytmjabeddommiaaa", sum := "3e0e6095b7846985fab56e544cbb5b058cf699c2562a6e8dcdd802a08d0c761d", func := "loop.example/g01129/laws.FnExactCountTables", spec := "fnExactCountTables", unfollowed := true, recurses := true, apart := false }
def FnExactCountTablesSaid : Prop := fnExactCountTablesRow.holds Try.pinned (OpenSpec.ofChange fnExactCountTablesSpec)

/-- ITS FALSE NEIGHBOUR: 'it returns false'. Refute it at one input. -/
def fnExactCountTablesWrong : ChangeSpec := { name := "fnExactCountTables", fn := fun _ => fun
  | [d] => { results := [.lit (.bool false)], args := [d] }
  | _ => none }
def FnExactCountTablesWrongFalsely : Prop := fnExactCountTablesRow.holds Try.pinned (OpenSpec.ofChange fnExactCountTablesWrong)

/-- 'laws.FnExactNearestTable': WHATEVER THE INPUT: true; the input reads as it did. -/
def fnExactNearestTableSpec : ChangeSpec := { name := "fnExactNearestTable", fn := fun _ => fun
  | [d] => { results := [.lit (.bool true)], args := [d] }
  | _ => none }
def fnExactNearestTableRow : OpenClaim := { program := "ytmjabeddommiaaa", sum := "3e0e6095b7846985fab56e544cbb5b058cf699c2562a6e8dcdd802a08d0c761d", func := "loop.example/g01129/laws.FnExactNearestTable", spec := "fnExactNearestTable", unfollowed := true, recurses := true, apart := false }
def FnExactNearestTableSaid : Prop := fnExactNearestTableRow.holds Try.pinned (OpenSpec.ofChange fnExactNearestTableSpec)

/-- ITS FALSE NEIGHBOUR: 'it returns false'. Refute it at one input. -/
def fnExactNearestTableWrong : ChangeSpec := { name := "fnExactNearestTable", fn := fun _ => fun
  | [d] => { results := [.lit (.bool false)], args := [d] }
  | _ => none }
def FnExactNearestTableWrongFalsely : Prop := fnExactNearestTableRow.holds Try.pinned (OpenSpec.ofChange fnExactNearestTableWrong)

/-- 'laws.FnExactCutFor': WHATEVER THE INPUT: true; the input reads as it did. -/
def fnExactCutForSpec : ChangeSpec := { name := "fnExactCutFor", fn := fun _ => fun
  | [d1, d2, d3] => { results := [.lit (.bool true)], args := [d1, d2, d3] }
  | _ => none }
def fnExactCutForRow : OpenClaim := { program := "ytmjabeddommiaaa", sum := "3e0e6095b7846985fab56e544cbb5b058cf699c2562a6e8dcdd802a08d0c761d", func := "loop.example/g01129/laws.FnExactCutFor", spec := "fnExactCutFor", unfollowed := true, recurses := true, apart := false }
def FnExactCutForSaid : Prop := fnExactCutForRow.holds Try.pinned (OpenSpec.ofChange fnExactCutForSpec)

/-- ITS FALSE NEIGHBOUR: 'it returns false'. Refute it at one input. -/
def fnExactCutForWrong : ChangeSpec := { name := "fnExactCutFor", fn := fun _ => fun
  | [d1, d2, d3] => { results := [.lit (.bool false)], args := [d1, d2, d3] }
  | _ => none }
def FnExactCutForWrongFalsely : Prop := fnExactCutForRow.holds Try.pinned (OpenSpec.ofChange fnExactCutForWrong)

/-- 'laws.FnExactRoundTable': WHATEVER THE INPUT: true; the input reads as it did. -/
def fnExactRoundTableSpec : ChangeSpec := { name := "fnExactRoundTable", fn := fun _ => fun
  | [d] => { results := [.lit (.bool true)], args := [d] }
  | _ => none }
def fnExactRoundTableRow : OpenClaim := { program := "ytmjabeddommiaaa", sum := "3e0e6095b7846985fab56e544cbb5b058cf699c2562a6e8dcdd802a08d0c761d", func := "loop.example/g01129/laws.FnExactRoundTable", spec := "fnExactRoundTable", unfollowed := true, recurses := true, apart := false }
def FnExactRoundTableSaid : Prop := fnExactRoundTableRow.holds Try.pinned (OpenSpec.ofChange fnExactRoundTableSpec)

/-- ITS FALSE NEIGHBOUR: 'it returns false'. Refute it at one input. -/
def fnExactRoundTableWrong : ChangeSpec := { name := "fnExactRoundTable", fn := fun _ => fun
  | [d] => { results := [.lit (.bool false)], args := [d] }
  | _ => none }
def FnExactRoundTableWrongFalsely : Prop := fnExactRoundTableRow.holds Try.pinned (OpenSpec.ofChange fnExactRoundTableWrong)

/-- 'laws.FnExactRoundWithMargins': WHATEVER THE INPUT: true; the input reads as it did. -/
def fnExactRoundWithMarginsSpec : ChangeSpec := { name := "fnExactRoundWithMargins", fn := fun _ => fun
  | [d1, d2, d3] => { results := [.lit (.bool true)], args := [d1, d2, d3] }
  | _ => none }
def fnExactRoundWithMarginsRow : OpenClaim := { program := "ytmjabeddommiaaa", sum := "3e0e6095b7846985fab56e544cbb5b058cf699c2562a6e8dcdd802a08d0c761d", func := "loop.example/g01129/laws.FnExactRoundWithMargins", spec := "fnExactRoundWithMargins", unfollowed := true, recurses := true, apart := false }
def FnExactRoundWithMarginsSaid : Prop := fnExactRoundWithMarginsRow.holds Try.pinned (OpenSpec.ofChange fnExactRoundWithMarginsSpec)

/-- ITS FALSE NEIGHBOUR: 'it returns false'. Refute it at one input. -/
def fnExactRoundWithMarginsWrong : ChangeSpec := { name := "fnExactRoundWithMargins", fn := fun _ => fun
  | [d1, d2, d3] => { results := [.lit (.bool false)], args := [d1, d2, d3] }
  | _ => none }
def FnExactRoundWithMarginsWrongFalsely : Prop := fnExactRoundWithMarginsRow.holds Try.pinned (OpenSpec.ofChange fnExactRoundWithMarginsWrong)

/- THE SECOND FORM. 'bulk': how many values and letters a reading holds, each counted each time it is reached (what is shared counts as often as it is met; a slice's spare places count too). A statement '..UptoSaid' is the law's where the arguments, and the package variables that the reading takes, are together of bulk at most 1048576: NARROWER than '..Said'. Prove '..Said' where nothing that the law and all that it calls make is longer than what came in: it says more and counts as full. Else prove '..UptoSaid'. A law counts once. -/
mutual
def uptoBulk {H : Type} : DataW H → Nat
  | .lit (.string bytes) => bytes.length + 1
  | .lit _ => 1
  | .nil => 1
  | .ptr d => uptoBulk d + 1
  | .slice elems spare => uptoBulkAll elems + uptoBulkAll spare + 1
  | .agg parts => uptoBulkAll parts + 1
  | .iface _ d => uptoBulk d + 1
  | .map entries => uptoBulkEntries entries + 1
  | .held _ => 1
def uptoBulkAll {H : Type} : List (DataW H) → Nat
  | [] => 0
  | d :: r => uptoBulk d + uptoBulkAll r
def uptoBulkEntries {H : Type} : List (Lit × DataW H) → Nat
  | [] => 0
  | x :: r => uptoBulkEntry x + uptoBulkEntries r
def uptoBulkEntry {H : Type} : Lit × DataW H → Nat
  | (.string bytes, d) => bytes.length + uptoBulk d + 1
  | (_, d) => uptoBulk d + 1
 end
def uptoSmall : (H : Type) → List (DataW H) → Bool := fun _ ds => decide (uptoBulkAll ds ≤ 1048576)
def OpenSpec.upto (s : _root_.Go.ChangeSpec) : _root_.Go.OpenSpec := { _root_.Go.OpenSpec.ofChange s with cond := some uptoSmall }

/-- 'laws.FnExactRowSums', WHERE WHAT IT READS IS OF BULK AT MOST 1048576: true; the input reads as it did. -/
def fnExactRowSumsUptoRow : OpenClaim := { program := "ytmjabeddommiaaa", sum := "3e0e6095b7846985fab56e544cbb5b058cf699c2562a6e8dcdd802a08d0c761d", func := "loop.example/g01129/laws.FnExactRowSums", spec := "fnExactRowSums", unfollowed := true, recurses := true, apart := false, narrowed := true }
def FnExactRowSumsUptoSaid : Prop := fnExactRowSumsUptoRow.holds Try.pinned (OpenSpec.upto fnExactRowSumsSpec)

/-- 'laws.FnExactColumnSums', WHERE WHAT IT READS IS OF BULK AT MOST 1048576: true; the input reads as it did. -/
def fnExactColumnSumsUptoRow : OpenClaim := { program := "ytmjabeddommiaaa", sum := "3e0e6095b7846985fab56e544cbb5b058cf699c2562a6e8dcdd802a08d0c761d", func := "loop.example/g01129/laws.FnExactColumnSums", spec := "fnExactColumnSums", unfollowed := true, recurses := true, apart := false, narrowed := true }
def FnExactColumnSumsUptoSaid : Prop := fnExactColumnSumsUptoRow.holds Try.pinned (OpenSpec.upto fnExactColumnSumsSpec)

/-- 'laws.FnExactIsTableRounding', WHERE WHAT IT READS IS OF BULK AT MOST 1048576: true; the input reads as it did. -/
def fnExactIsTableRoundingUptoRow : OpenClaim := { program := "ytmjabeddommiaaa", sum := "3e0e6095b7846985fab56e544cbb5b058cf699c2562a6e8dcdd802a08d0c761d", func := "loop.example/g01129/laws.FnExactIsTableRounding", spec := "fnExactIsTableRounding", unfollowed := true, recurses := true, apart := false, narrowed := true }
def FnExactIsTableRoundingUptoSaid : Prop := fnExactIsTableRoundingUptoRow.holds Try.pinned (OpenSpec.upto fnExactIsTableRoundingSpec)

/-- 'laws.FnExactIsMarginRounding', WHERE WHAT IT READS IS OF BULK AT MOST 1048576: true; the input reads as it did. -/
def fnExactIsMarginRoundingUptoRow : OpenClaim := { program := "ytmjabeddommiaaa", sum := "3e0e6095b7846985fab56e544cbb5b058cf699c2562a6e8dcdd802a08d0c761d", func := "loop.example/g01129/laws.FnExactIsMarginRounding", spec := "fnExactIsMarginRounding", unfollowed := true, recurses := true, apart := false, narrowed := true }
def FnExactIsMarginRoundingUptoSaid : Prop := fnExactIsMarginRoundingUptoRow.holds Try.pinned (OpenSpec.upto fnExactIsMarginRoundingSpec)

/-- 'laws.FnExactIsCut', WHERE WHAT IT READS IS OF BULK AT MOST 1048576: true; the input reads as it did. -/
def fnExactIsCutUptoRow : OpenClaim := { program := "ytmjabeddommiaaa", sum := "3e0e6095b7846985fab56e544cbb5b058cf699c2562a6e8dcdd802a08d0c761d", func := "loop.example/g01129/laws.FnExactIsCut", spec := "fnExactIsCut", unfollowed := true, recurses := true, apart := false, narrowed := true }
def FnExactIsCutUptoSaid : Prop := fnExactIsCutUptoRow.holds Try.pinned (OpenSpec.upto fnExactIsCutSpec)

/-- 'laws.FnExactCountTables', WHERE WHAT IT READS IS OF BULK AT MOST 1048576: true; the input reads as it did. -/
def fnExactCountTablesUptoRow : OpenClaim := { program := "ytmjabeddommiaaa", sum := "3e0e6095b7846985fab56e544cbb5b058cf699c2562a6e8dcdd802a08d0c761d", func := "loop.example/g01129/laws.FnExactCountTables", spec := "fnExactCountTables", unfollowed := true, recurses := true, apart := false, narrowed := true }
def FnExactCountTablesUptoSaid : Prop := fnExactCountTablesUptoRow.holds Try.pinned (OpenSpec.upto fnExactCountTablesSpec)

/-- 'laws.FnExactNearestTable', WHERE WHAT IT READS IS OF BULK AT MOST 1048576: true; the input reads as it did. -/
def fnExactNearestTableUptoRow : OpenClaim := { program := "ytmjabeddommiaaa", sum := "3e0e6095b7846985fab56e544cbb5b058cf699c2562a6e8dcdd802a08d0c761d", func := "loop.example/g01129/laws.FnExactNearestTable", spec := "fnExactNearestTable", unfollowed := true, recurses := true, apart := false, narrowed := true }
def FnExactNearestTableUptoSaid : Prop := fnExactNearestTableUptoRow.holds Try.pinned (OpenSpec.upto fnExactNearestTableSpec)

/-- 'laws.FnExactCutFor', WHERE WHAT IT READS IS OF BULK AT MOST 1048576: true; the input reads as it did. -/
def fnExactCutForUptoRow : OpenClaim := { program := "ytmjabeddommiaaa", sum := "3e0e6095b7846985fab56e544cbb5b058cf699c2562a6e8dcdd802a08d0c761d", func := "loop.example/g01129/laws.FnExactCutFor", spec := "fnExactCutFor", unfollowed := true, recurses := true, apart := false, narrowed := true }
def FnExactCutForUptoSaid : Prop := fnExactCutForUptoRow.holds Try.pinned (OpenSpec.upto fnExactCutForSpec)

/-- 'laws.FnExactRoundTable', WHERE WHAT IT READS IS OF BULK AT MOST 1048576: true; the input reads as it did. -/
def fnExactRoundTableUptoRow : OpenClaim := { program := "ytmjabeddommiaaa", sum := "3e0e6095b7846985fab56e544cbb5b058cf699c2562a6e8dcdd802a08d0c761d", func := "loop.example/g01129/laws.FnExactRoundTable", spec := "fnExactRoundTable", unfollowed := true, recurses := true, apart := false, narrowed := true }
def FnExactRoundTableUptoSaid : Prop := fnExactRoundTableUptoRow.holds Try.pinned (OpenSpec.upto fnExactRoundTableSpec)

/-- 'laws.FnExactRoundWithMargins', WHERE WHAT IT READS IS OF BULK AT MOST 1048576: true; the input reads as it did. -/
def fnExactRoundWithMarginsUptoRow : OpenClaim := { program := "ytmjabeddommiaaa", sum := "3e0e6095b7846985fab56e544cbb5b058cf699c2562a6e8dcdd802a08d0c761d", func := "loop.example/g01129/laws.FnExactRoundWithMargins", spec := "fnExactRoundWithMargins", unfollowed := true, recurses := true, apart := false, narrowed := true }
def FnExactRoundWithMarginsUptoSaid : Prop := fnExactRoundWithMarginsUptoRow.holds Try.pinned (OpenSpec.upto fnExactRoundWithMarginsSpec)

end Rows
end Go.Proofs.Ytmjabeddommiaaa
