/-
  No cell of these rows narrows 'for every input' (looked for: loops, veiled, ifaces, maps, wideKeys, modest, calm, conditions, laid).
  DERIVED. THE GIVEN ROWS OF THIS SEAT. 7 by the template 'for every input the law returns true; each argument reads behind the call as it read before'; 0 by the template 'total and deterministic' (their statements: YtkcdmmegdhiabaaTotals.lean).
  GIVEN WITH THE SEED: the statements are not yours to turn. If you find one false, say at which input.
  Laid BY PROGRAM, IN A SANDBOX (cutbox-rows.mjs): the forced cells as the released guide's own fill.sh prints them over the translation 7e498e9a3fc51dd4… (all of the seat's roots in one cut). By AI agents, Wed Nov 11 2026. No macro, syntax, notation, axiom, sorry.
-/
import Derived.Test.YtkcdmmegdhiabaaChecked
import GoSem.Claim
import GoSem.ClaimJoined
import GoSem.ClaimMapViews
import Derived.JoinedTies
import Derived.KernelRfl
namespace Go.Proofs.Ytkcdmmegdhiabaa
/- THE CELL 'sum', in the pinned program and in every row, IS THE sha256 OF THE DUMP (.gsa) THAT YtkcdmmegdhiabaaProg.lean LOADS. Nothing in Lean hashes anything: it is a label: what it is worth is what the hold of that sum in a sandbox is worth. -/
noncomputable def Try.pinned : Pinned := { name := "ytkcdmmegdhiabaa", sum := "7e498e9a3fc51dd48111c7c3494df4a5bd294cc64e1fe414456609c26a5edda7", checked := Try.checked }
namespace Rows
def none {H : Type} : Left H := { results := [], args := [] }

/-- 'laws.FnExactWindowsOf': WHATEVER THE INPUT: true; the input reads as it did. -/
def fnExactWindowsOfSpec : ChangeSpec := { name := "fnExactWindowsOf", fn := fun _ => fun
  | [d1, d2] => { results := [.lit (.bool true)], args := [d1, d2] }
  | _ => none }
def fnExactWindowsOfRow : OpenClaim := { program := "ytkcdmmegdhiabaa", sum := "7e498e9a3fc51dd48111c7c3494df4a5bd294cc64e1fe414456609c26a5edda7", func := "loop.example/g01129/laws.FnExactWindowsOf", spec := "fnExactWindowsOf", unfollowed := true, recurses := true, plainKeys := false, apart := false }
def FnExactWindowsOfSaid : Prop := fnExactWindowsOfRow.holds Try.pinned (OpenSpec.ofChange fnExactWindowsOfSpec)

/-- ITS FALSE NEIGHBOUR: 'it returns false'. Refute it at one input. -/
def fnExactWindowsOfWrong : ChangeSpec := { name := "fnExactWindowsOf", fn := fun _ => fun
  | [d1, d2] => { results := [.lit (.bool false)], args := [d1, d2] }
  | _ => none }
def FnExactWindowsOfWrongFalsely : Prop := fnExactWindowsOfRow.holds Try.pinned (OpenSpec.ofChange fnExactWindowsOfWrong)

/-- 'laws.FnExactDeviationsOf': WHATEVER THE INPUT: true; the input reads as it did. -/
def fnExactDeviationsOfSpec : ChangeSpec := { name := "fnExactDeviationsOf", fn := fun _ => fun
  | [d1, d2] => { results := [.lit (.bool true)], args := [d1, d2] }
  | _ => none }
def fnExactDeviationsOfRow : OpenClaim := { program := "ytkcdmmegdhiabaa", sum := "7e498e9a3fc51dd48111c7c3494df4a5bd294cc64e1fe414456609c26a5edda7", func := "loop.example/g01129/laws.FnExactDeviationsOf", spec := "fnExactDeviationsOf", unfollowed := true, recurses := true, plainKeys := false, apart := false }
def FnExactDeviationsOfSaid : Prop := fnExactDeviationsOfRow.holds Try.pinned (OpenSpec.ofChange fnExactDeviationsOfSpec)

/-- ITS FALSE NEIGHBOUR: 'it returns false'. Refute it at one input. -/
def fnExactDeviationsOfWrong : ChangeSpec := { name := "fnExactDeviationsOf", fn := fun _ => fun
  | [d1, d2] => { results := [.lit (.bool false)], args := [d1, d2] }
  | _ => none }
def FnExactDeviationsOfWrongFalsely : Prop := fnExactDeviationsOfRow.holds Try.pinned (OpenSpec.ofChange fnExactDeviationsOfWrong)

/-- 'laws.FnExactGreatestDeviation': WHATEVER THE INPUT: true; the input reads as it did. -/
def fnExactGreatestDeviationSpec : ChangeSpec := { name := "fnExactGreatestDeviation", fn := fun _ => fun
  | [d1, d2] => { results := [.lit (.bool true)], args := [d1, d2] }
  | _ => none }
def fnExactGreatestDeviationRow : OpenClaim := { program := "ytkcdmmegdhiabaa", sum := "7e498e9a3fc51dd48111c7c3494df4a5bd294cc64e1fe414456609c26a5edda7", func := "loop.example/g01129/laws.FnExactGreatestDeviation", spec := "fnExactGreatestDeviation", unfollowed := true, recurses := true, plainKeys := false, apart := false }
def FnExactGreatestDeviationSaid : Prop := fnExactGreatestDeviationRow.holds Try.pinned (OpenSpec.ofChange fnExactGreatestDeviationSpec)

/-- ITS FALSE NEIGHBOUR: 'it returns false'. Refute it at one input. -/
def fnExactGreatestDeviationWrong : ChangeSpec := { name := "fnExactGreatestDeviation", fn := fun _ => fun
  | [d1, d2] => { results := [.lit (.bool false)], args := [d1, d2] }
  | _ => none }
def FnExactGreatestDeviationWrongFalsely : Prop := fnExactGreatestDeviationRow.holds Try.pinned (OpenSpec.ofChange fnExactGreatestDeviationWrong)

/-- 'laws.FnExactSquareDeviation': WHATEVER THE INPUT: true; the input reads as it did. -/
def fnExactSquareDeviationSpec : ChangeSpec := { name := "fnExactSquareDeviation", fn := fun _ => fun
  | [d1, d2] => { results := [.lit (.bool true)], args := [d1, d2] }
  | _ => none }
def fnExactSquareDeviationRow : OpenClaim := { program := "ytkcdmmegdhiabaa", sum := "7e498e9a3fc51dd48111c7c3494df4a5bd294cc64e1fe414456609c26a5edda7", func := "loop.example/g01129/laws.FnExactSquareDeviation", spec := "fnExactSquareDeviation", unfollowed := true, recurses := true, plainKeys := false, apart := false }
def FnExactSquareDeviationSaid : Prop := fnExactSquareDeviationRow.holds Try.pinned (OpenSpec.ofChange fnExactSquareDeviationSpec)

/-- ITS FALSE NEIGHBOUR: 'it returns false'. Refute it at one input. -/
def fnExactSquareDeviationWrong : ChangeSpec := { name := "fnExactSquareDeviation", fn := fun _ => fun
  | [d1, d2] => { results := [.lit (.bool false)], args := [d1, d2] }
  | _ => none }
def FnExactSquareDeviationWrongFalsely : Prop := fnExactSquareDeviationRow.holds Try.pinned (OpenSpec.ofChange fnExactSquareDeviationWrong)

/-- 'laws.FnExactBestSequence': WHATEVER THE INPUT: true; the input reads as it did. -/
def fnExactBestSequenceSpec : ChangeSpec := { name := "fnExactBestSequence", fn := fun _ => fun
  | [d] => { results := [.lit (.bool true)], args := [d] }
  | _ => none }
def fnExactBestSequenceRow : OpenClaim := { program := "ytkcdmmegdhiabaa", sum := "7e498e9a3fc51dd48111c7c3494df4a5bd294cc64e1fe414456609c26a5edda7", func := "loop.example/g01129/laws.FnExactBestSequence", spec := "fnExactBestSequence", unfollowed := true, recurses := true, plainKeys := false, apart := false }
def FnExactBestSequenceSaid : Prop := fnExactBestSequenceRow.holds Try.pinned (OpenSpec.ofChange fnExactBestSequenceSpec)

/-- ITS FALSE NEIGHBOUR: 'it returns false'. Refute it at one input. -/
def fnExactBestSequenceWrong : ChangeSpec := { name := "fnExactBestSequence", fn := fun _ => fun
  | [d] => { results := [.lit (.bool false)], args := [d] }
  | _ => none }
def FnExactBestSequenceWrongFalsely : Prop := fnExactBestSequenceRow.holds Try.pinned (OpenSpec.ofChange fnExactBestSequenceWrong)

/-- 'laws.FnWindows': WHATEVER THE INPUT: true; the input reads as it did. -/
def fnWindowsSpec : ChangeSpec := { name := "fnWindows", fn := fun _ => fun
  | [d1, d2] => { results := [.lit (.bool true)], args := [d1, d2] }
  | _ => none }
def fnWindowsRow : OpenClaim := { program := "ytkcdmmegdhiabaa", sum := "7e498e9a3fc51dd48111c7c3494df4a5bd294cc64e1fe414456609c26a5edda7", func := "loop.example/g01129/laws.FnWindows", spec := "fnWindows", unfollowed := true, recurses := true, plainKeys := false, apart := false }
def FnWindowsSaid : Prop := fnWindowsRow.holds Try.pinned (OpenSpec.ofChange fnWindowsSpec)

/-- ITS FALSE NEIGHBOUR: 'it returns false'. Refute it at one input. -/
def fnWindowsWrong : ChangeSpec := { name := "fnWindows", fn := fun _ => fun
  | [d1, d2] => { results := [.lit (.bool false)], args := [d1, d2] }
  | _ => none }
def FnWindowsWrongFalsely : Prop := fnWindowsRow.holds Try.pinned (OpenSpec.ofChange fnWindowsWrong)

/-- 'laws.FnLeastSquares': WHATEVER THE INPUT: true; the input reads as it did. -/
def fnLeastSquaresSpec : ChangeSpec := { name := "fnLeastSquares", fn := fun _ => fun
  | [d1, d2] => { results := [.lit (.bool true)], args := [d1, d2] }
  | _ => none }
def fnLeastSquaresRow : OpenClaim := { program := "ytkcdmmegdhiabaa", sum := "7e498e9a3fc51dd48111c7c3494df4a5bd294cc64e1fe414456609c26a5edda7", func := "loop.example/g01129/laws.FnLeastSquares", spec := "fnLeastSquares", unfollowed := true, recurses := true, plainKeys := false, apart := false }
def FnLeastSquaresSaid : Prop := fnLeastSquaresRow.holds Try.pinned (OpenSpec.ofChange fnLeastSquaresSpec)

/-- ITS FALSE NEIGHBOUR: 'it returns false'. Refute it at one input. -/
def fnLeastSquaresWrong : ChangeSpec := { name := "fnLeastSquares", fn := fun _ => fun
  | [d1, d2] => { results := [.lit (.bool false)], args := [d1, d2] }
  | _ => none }
def FnLeastSquaresWrongFalsely : Prop := fnLeastSquaresRow.holds Try.pinned (OpenSpec.ofChange fnLeastSquaresWrong)

/- THE SECOND FORM. 'bulk': how many values and letters a reading holds, each counted each time it is reached (what is shared counts as often as it is met; a slice's spare places count too). A statement '..UptoSaid' is the law's where the arguments, and the package variables that the reading takes, are together of bulk at most 1048576: NARROWER than '..Said'. Prove '..Said' where nothing that the law and all that it calls make is longer than what came in: it says more and counts as full. Else prove '..UptoSaid'. A law counts once. -/
mutual
def uptoBulk {H : Type} : DataW H → Nat
  | .lit (.string bytes) => bytes.length + 1
  | .lit _ => 1
  | .nil => 1
  | .ptr d => uptoBulk d + 1
  | .slice elems spare => uptoBulkAll elems + uptoBulkAll spare + 1
  | .agg parts => uptoBulkAll parts + 1
  | .iface _ d => uptoBulk d + 1
  | .map entries => uptoBulkEntries entries + 1
  | .held _ => 1
def uptoBulkAll {H : Type} : List (DataW H) → Nat
  | [] => 0
  | d :: r => uptoBulk d + uptoBulkAll r
def uptoBulkEntries {H : Type} : List (Lit × DataW H) → Nat
  | [] => 0
  | x :: r => uptoBulkEntry x + uptoBulkEntries r
def uptoBulkEntry {H : Type} : Lit × DataW H → Nat
  | (.string bytes, d) => bytes.length + uptoBulk d + 1
  | (_, d) => uptoBulk d + 1
 end
def uptoSmall : (H : Type) → List (DataW H) → Bool := fun _ ds => decide (uptoBulkAll ds ≤ 1048576)
def OpenSpec.upto (s : _root_.Go.ChangeSpec) : _root_.Go.OpenSpec := { _root_.Go.OpenSpec.ofChange s with cond := some uptoSmall }

/-- 'laws.FnExactWindowsOf', WHERE WHAT IT READS IS OF BULK AT MOST 1048576: true; the input reads as it did. -/
def fnExactWindowsOfUptoRow : OpenClaim := { program := "ytkcdmmegdhiabaa", sum := "7e498e9a3fc51dd48111c7c3494df4a5bd294cc64e1fe414456609c26a5edda7", func := "loop.example/g01129/laws.FnExactWindowsOf", spec := "fnExactWindowsOf", unfollowed := true, recurses := true, plainKeys := false, apart := false, narrowed := true }
def FnExactWindowsOfUptoSaid : Prop := fnExactWindowsOfUptoRow.holds Try.pinned (OpenSpec.upto fnExactWindowsOfSpec)

/-- 'laws.FnExactDeviationsOf', WHERE WHAT IT READS IS OF BULK AT MOST 1048576: true; the input reads as it did. -/
def fnExactDeviationsOfUptoRow : OpenClaim := { program := "ytkcdmmegdhiabaa", sum := "7e498e9a3fc51dd48111c7c3494df4a5bd294cc64e1fe414456609c26a5edda7", func := "loop.example/g01129/laws.FnExactDeviationsOf", spec := "fnExactDeviationsOf", unfollowed := true, recurses := true, plainKeys := false, apart := false, narrowed := true }
def FnExactDeviationsOfUptoSaid : Prop := fnExactDeviationsOfUptoRow.holds Try.pinned (OpenSpec.upto fnExactDeviationsOfSpec)

/-- 'laws.FnExactGreatestDeviation', WHERE WHAT IT READS IS OF BULK AT MOST 1048576: true; the input reads as it did. -/
def fnExactGreatestDeviationUptoRow : OpenClaim := { program := "ytkcdmmegdhiabaa", sum := "7e498e9a3fc51dd48111c7c3494df4a5bd294cc64e1fe414456609c26a5edda7", func := "loop.example/g01129/laws.FnExactGreatestDeviation", spec := "fnExactGreatestDeviation", unfollowed := true, recurses := true, plainKeys := false, apart := false, narrowed := true }
def FnExactGreatestDeviationUptoSaid : Prop := fnExactGreatestDeviationUptoRow.holds Try.pinned (OpenSpec.upto fnExactGreatestDeviationSpec)

/-- 'laws.FnExactSquareDeviation', WHERE WHAT IT READS IS OF BULK AT MOST 1048576: true; the input reads as it did. -/
def fnExactSquareDeviationUptoRow : OpenClaim := { program := "ytkcdmmegdhiabaa", sum := "7e498e9a3fc51dd48111c7c3494df4a5bd294cc64e1fe414456609c26a5edda7", func := "loop.example/g01129/laws.FnExactSquareDeviation", spec := "fnExactSquareDeviation", unfollowed := true, recurses := true, plainKeys := false, apart := false, narrowed := true }
def FnExactSquareDeviationUptoSaid : Prop := fnExactSquareDeviationUptoRow.holds Try.pinned (OpenSpec.upto fnExactSquareDeviationSpec)

/-- 'laws.FnExactBestSequence', WHERE WHAT IT READS IS OF BULK AT MOST 1048576: true; the input reads as it did. -/
def fnExactBestSequenceUptoRow : OpenClaim := { program := "ytkcdmmegdhiabaa", sum := "7e498e9a3fc51dd48111c7c3494df4a5bd294cc64e1fe414456609c26a5edda7", func := "loop.example/g01129/laws.FnExactBestSequence", spec := "fnExactBestSequence", unfollowed := true, recurses := true, plainKeys := false, apart := false, narrowed := true }
def FnExactBestSequenceUptoSaid : Prop := fnExactBestSequenceUptoRow.holds Try.pinned (OpenSpec.upto fnExactBestSequenceSpec)

/-- 'laws.FnWindows', WHERE WHAT IT READS IS OF BULK AT MOST 1048576: true; the input reads as it did. -/
def fnWindowsUptoRow : OpenClaim := { program := "ytkcdmmegdhiabaa", sum := "7e498e9a3fc51dd48111c7c3494df4a5bd294cc64e1fe414456609c26a5edda7", func := "loop.example/g01129/laws.FnWindows", spec := "fnWindows", unfollowed := true, recurses := true, plainKeys := false, apart := false, narrowed := true }
def FnWindowsUptoSaid : Prop := fnWindowsUptoRow.holds Try.pinned (OpenSpec.upto fnWindowsSpec)

/-- 'laws.FnLeastSquares', WHERE WHAT IT READS IS OF BULK AT MOST 1048576: true; the input reads as it did. -/
def fnLeastSquaresUptoRow : OpenClaim := { program := "ytkcdmmegdhiabaa", sum := "7e498e9a3fc51dd48111c7c3494df4a5bd294cc64e1fe414456609c26a5edda7", func := "loop.example/g01129/laws.FnLeastSquares", spec := "fnLeastSquares", unfollowed := true, recurses := true, plainKeys := false, apart := false, narrowed := true }
def FnLeastSquaresUptoSaid : Prop := fnLeastSquaresUptoRow.holds Try.pinned (OpenSpec.upto fnLeastSquaresSpec)

end Rows
end Go.Proofs.Ytkcdmmegdhiabaa
