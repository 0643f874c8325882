/-
  No cell of these rows narrows 'for every input' (looked for: loops, veiled, ifaces, maps, wideKeys, modest, calm, conditions, laid).
  DERIVED. THE GIVEN ROWS OF THIS SEAT. 12 by the template 'for every input the law returns true; each argument reads behind the call as it read before'; 0 by the template 'total and deterministic' (their statements: YtggnpbcekiojdaaTotals.lean).
  GIVEN WITH THE SEED: the statements are not yours to turn. If you find one false, say at which input.
  Laid BY PROGRAM, IN A SANDBOX (cutbox-rows.mjs): the forced cells as the released guide's own fill.sh prints them over the translation bef3db95c8aaf662… (all of the seat's roots in one cut). By AI agents, Wed Nov 11 2026. No macro, syntax, notation, axiom, sorry.
-/
import Derived.Test.YtggnpbcekiojdaaChecked
import GoSem.Claim
import GoSem.ClaimJoined
import GoSem.ClaimMapViews
import Derived.JoinedTies
import Derived.KernelRfl
namespace Go.Proofs.Ytggnpbcekiojdaa
/- THE CELL 'sum', in the pinned program and in every row, IS THE sha256 OF THE DUMP (.gsa) THAT YtggnpbcekiojdaaProg.lean LOADS. Nothing in Lean hashes anything: it is a label: what it is worth is what the hold of that sum in a sandbox is worth. -/
noncomputable def Try.pinned : Pinned := { name := "ytggnpbcekiojdaa", sum := "bef3db95c8aaf662f3d86494e3eac6820780a59cb504374976d1fefc93a84969", checked := Try.checked }
namespace Rows
def none {H : Type} : Left H := { results := [], args := [] }

/-- 'laws.FnExactCountBalanced': WHATEVER THE INPUT: true; the input reads as it did. -/
def fnExactCountBalancedSpec : ChangeSpec := { name := "fnExactCountBalanced", fn := fun _ => fun
  | [d] => { results := [.lit (.bool true)], args := [d] }
  | _ => none }
def fnExactCountBalancedRow : OpenClaim := { program := "ytggnpbcekiojdaa", sum := "bef3db95c8aaf662f3d86494e3eac6820780a59cb504374976d1fefc93a84969", func := "loop.example/g01129/laws.FnExactCountBalanced", spec := "fnExactCountBalanced", apart := false }
def FnExactCountBalancedSaid : Prop := fnExactCountBalancedRow.holds Try.pinned (OpenSpec.ofChange fnExactCountBalancedSpec)

/-- ITS FALSE NEIGHBOUR: 'it returns false'. Refute it at one input. -/
def fnExactCountBalancedWrong : ChangeSpec := { name := "fnExactCountBalanced", fn := fun _ => fun
  | [d] => { results := [.lit (.bool false)], args := [d] }
  | _ => none }
def FnExactCountBalancedWrongFalsely : Prop := fnExactCountBalancedRow.holds Try.pinned (OpenSpec.ofChange fnExactCountBalancedWrong)

/-- 'laws.FnExactLineWord': WHATEVER THE INPUT: true; the input reads as it did. -/
def fnExactLineWordSpec : ChangeSpec := { name := "fnExactLineWord", fn := fun _ => fun
  | [d1, d2, d3, d4] => { results := [.lit (.bool true)], args := [d1, d2, d3, d4] }
  | _ => none }
def fnExactLineWordRow : OpenClaim := { program := "ytggnpbcekiojdaa", sum := "bef3db95c8aaf662f3d86494e3eac6820780a59cb504374976d1fefc93a84969", func := "loop.example/g01129/laws.FnExactLineWord", spec := "fnExactLineWord", apart := false }
def FnExactLineWordSaid : Prop := fnExactLineWordRow.holds Try.pinned (OpenSpec.ofChange fnExactLineWordSpec)

/-- ITS FALSE NEIGHBOUR: 'it returns false'. Refute it at one input. -/
def fnExactLineWordWrong : ChangeSpec := { name := "fnExactLineWord", fn := fun _ => fun
  | [d1, d2, d3, d4] => { results := [.lit (.bool false)], args := [d1, d2, d3, d4] }
  | _ => none }
def FnExactLineWordWrongFalsely : Prop := fnExactLineWordRow.holds Try.pinned (OpenSpec.ofChange fnExactLineWordWrong)

/-- 'laws.FnExactContinuedOf': WHATEVER THE INPUT: true; the input reads as it did. -/
def fnExactContinuedOfSpec : ChangeSpec := { name := "fnExactContinuedOf", fn := fun _ => fun
  | [d1, d2] => { results := [.lit (.bool true)], args := [d1, d2] }
  | _ => none }
def fnExactContinuedOfRow : OpenClaim := { program := "ytggnpbcekiojdaa", sum := "bef3db95c8aaf662f3d86494e3eac6820780a59cb504374976d1fefc93a84969", func := "loop.example/g01129/laws.FnExactContinuedOf", spec := "fnExactContinuedOf", apart := false }
def FnExactContinuedOfSaid : Prop := fnExactContinuedOfRow.holds Try.pinned (OpenSpec.ofChange fnExactContinuedOfSpec)

/-- ITS FALSE NEIGHBOUR: 'it returns false'. Refute it at one input. -/
def fnExactContinuedOfWrong : ChangeSpec := { name := "fnExactContinuedOf", fn := fun _ => fun
  | [d1, d2] => { results := [.lit (.bool false)], args := [d1, d2] }
  | _ => none }
def FnExactContinuedOfWrongFalsely : Prop := fnExactContinuedOfRow.holds Try.pinned (OpenSpec.ofChange fnExactContinuedOfWrong)

/-- 'laws.FnExactValidDemands': WHATEVER THE INPUT: true; the input reads as it did. -/
def fnExactValidDemandsSpec : ChangeSpec := { name := "fnExactValidDemands", fn := fun _ => fun
  | [d] => { results := [.lit (.bool true)], args := [d] }
  | _ => none }
def fnExactValidDemandsRow : OpenClaim := { program := "ytggnpbcekiojdaa", sum := "bef3db95c8aaf662f3d86494e3eac6820780a59cb504374976d1fefc93a84969", func := "loop.example/g01129/laws.FnExactValidDemands", spec := "fnExactValidDemands", unfollowed := true, recurses := true, apart := false }
def FnExactValidDemandsSaid : Prop := fnExactValidDemandsRow.holds Try.pinned (OpenSpec.ofChange fnExactValidDemandsSpec)

/-- ITS FALSE NEIGHBOUR: 'it returns false'. Refute it at one input. -/
def fnExactValidDemandsWrong : ChangeSpec := { name := "fnExactValidDemands", fn := fun _ => fun
  | [d] => { results := [.lit (.bool false)], args := [d] }
  | _ => none }
def FnExactValidDemandsWrongFalsely : Prop := fnExactValidDemandsRow.holds Try.pinned (OpenSpec.ofChange fnExactValidDemandsWrong)

/-- 'laws.FnExactChristoffelWord': WHATEVER THE INPUT: true; the input reads as it did. -/
def fnExactChristoffelWordSpec : ChangeSpec := { name := "fnExactChristoffelWord", fn := fun _ => fun
  | [d1, d2] => { results := [.lit (.bool true)], args := [d1, d2] }
  | _ => none }
def fnExactChristoffelWordRow : OpenClaim := { program := "ytggnpbcekiojdaa", sum := "bef3db95c8aaf662f3d86494e3eac6820780a59cb504374976d1fefc93a84969", func := "loop.example/g01129/laws.FnExactChristoffelWord", spec := "fnExactChristoffelWord", apart := false }
def FnExactChristoffelWordSaid : Prop := fnExactChristoffelWordRow.holds Try.pinned (OpenSpec.ofChange fnExactChristoffelWordSpec)

/-- ITS FALSE NEIGHBOUR: 'it returns false'. Refute it at one input. -/
def fnExactChristoffelWordWrong : ChangeSpec := { name := "fnExactChristoffelWord", fn := fun _ => fun
  | [d1, d2] => { results := [.lit (.bool false)], args := [d1, d2] }
  | _ => none }
def FnExactChristoffelWordWrongFalsely : Prop := fnExactChristoffelWordRow.holds Try.pinned (OpenSpec.ofChange fnExactChristoffelWordWrong)

/-- 'laws.FnBalancedCount': WHATEVER THE INPUT: true; the input reads as it did. -/
def fnBalancedCountSpec : ChangeSpec := { name := "fnBalancedCount", fn := fun _ => fun
  | [d1, d2] => { results := [.lit (.bool true)], args := [d1, d2] }
  | _ => none }
def fnBalancedCountRow : OpenClaim := { program := "ytggnpbcekiojdaa", sum := "bef3db95c8aaf662f3d86494e3eac6820780a59cb504374976d1fefc93a84969", func := "loop.example/g01129/laws.FnBalancedCount", spec := "fnBalancedCount", apart := false }
def FnBalancedCountSaid : Prop := fnBalancedCountRow.holds Try.pinned (OpenSpec.ofChange fnBalancedCountSpec)

/-- ITS FALSE NEIGHBOUR: 'it returns false'. Refute it at one input. -/
def fnBalancedCountWrong : ChangeSpec := { name := "fnBalancedCount", fn := fun _ => fun
  | [d1, d2] => { results := [.lit (.bool false)], args := [d1, d2] }
  | _ => none }
def FnBalancedCountWrongFalsely : Prop := fnBalancedCountRow.holds Try.pinned (OpenSpec.ofChange fnBalancedCountWrong)

/-- 'laws.FnExactFromContinued': WHATEVER THE INPUT: true; the input reads as it did. -/
def fnExactFromContinuedSpec : ChangeSpec := { name := "fnExactFromContinued", fn := fun _ => fun
  | [d] => { results := [.lit (.bool true)], args := [d] }
  | _ => none }
def fnExactFromContinuedRow : OpenClaim := { program := "ytggnpbcekiojdaa", sum := "bef3db95c8aaf662f3d86494e3eac6820780a59cb504374976d1fefc93a84969", func := "loop.example/g01129/laws.FnExactFromContinued", spec := "fnExactFromContinued", unfollowed := true, recurses := true, apart := false }
def FnExactFromContinuedSaid : Prop := fnExactFromContinuedRow.holds Try.pinned (OpenSpec.ofChange fnExactFromContinuedSpec)

/-- ITS FALSE NEIGHBOUR: 'it returns false'. Refute it at one input. -/
def fnExactFromContinuedWrong : ChangeSpec := { name := "fnExactFromContinued", fn := fun _ => fun
  | [d] => { results := [.lit (.bool false)], args := [d] }
  | _ => none }
def FnExactFromContinuedWrongFalsely : Prop := fnExactFromContinuedRow.holds Try.pinned (OpenSpec.ofChange fnExactFromContinuedWrong)

/-- 'laws.FnExactIsSequence': WHATEVER THE INPUT: true; the input reads as it did. -/
def fnExactIsSequenceSpec : ChangeSpec := { name := "fnExactIsSequence", fn := fun _ => fun
  | [d1, d2] => { results := [.lit (.bool true)], args := [d1, d2] }
  | _ => none }
def fnExactIsSequenceRow : OpenClaim := { program := "ytggnpbcekiojdaa", sum := "bef3db95c8aaf662f3d86494e3eac6820780a59cb504374976d1fefc93a84969", func := "loop.example/g01129/laws.FnExactIsSequence", spec := "fnExactIsSequence", unfollowed := true, recurses := true, apart := false }
def FnExactIsSequenceSaid : Prop := fnExactIsSequenceRow.holds Try.pinned (OpenSpec.ofChange fnExactIsSequenceSpec)

/-- ITS FALSE NEIGHBOUR: 'it returns false'. Refute it at one input. -/
def fnExactIsSequenceWrong : ChangeSpec := { name := "fnExactIsSequence", fn := fun _ => fun
  | [d1, d2] => { results := [.lit (.bool false)], args := [d1, d2] }
  | _ => none }
def FnExactIsSequenceWrongFalsely : Prop := fnExactIsSequenceRow.holds Try.pinned (OpenSpec.ofChange fnExactIsSequenceWrong)

/-- 'laws.FnExactValidTable': WHATEVER THE INPUT: true; the input reads as it did. -/
def fnExactValidTableSpec : ChangeSpec := { name := "fnExactValidTable", fn := fun _ => fun
  | [d] => { results := [.lit (.bool true)], args := [d] }
  | _ => none }
def fnExactValidTableRow : OpenClaim := { program := "ytggnpbcekiojdaa", sum := "bef3db95c8aaf662f3d86494e3eac6820780a59cb504374976d1fefc93a84969", func := "loop.example/g01129/laws.FnExactValidTable", spec := "fnExactValidTable", unfollowed := true, recurses := true, apart := false }
def FnExactValidTableSaid : Prop := fnExactValidTableRow.holds Try.pinned (OpenSpec.ofChange fnExactValidTableSpec)

/-- ITS FALSE NEIGHBOUR: 'it returns false'. Refute it at one input. -/
def fnExactValidTableWrong : ChangeSpec := { name := "fnExactValidTable", fn := fun _ => fun
  | [d] => { results := [.lit (.bool false)], args := [d] }
  | _ => none }
def FnExactValidTableWrongFalsely : Prop := fnExactValidTableRow.holds Try.pinned (OpenSpec.ofChange fnExactValidTableWrong)

/-- 'laws.FnExactNeedySequence': WHATEVER THE INPUT: true; the input reads as it did. -/
def fnExactNeedySequenceSpec : ChangeSpec := { name := "fnExactNeedySequence", fn := fun _ => fun
  | [d] => { results := [.lit (.bool true)], args := [d] }
  | _ => none }
def fnExactNeedySequenceRow : OpenClaim := { program := "ytggnpbcekiojdaa", sum := "bef3db95c8aaf662f3d86494e3eac6820780a59cb504374976d1fefc93a84969", func := "loop.example/g01129/laws.FnExactNeedySequence", spec := "fnExactNeedySequence", unfollowed := true, recurses := true, apart := false }
def FnExactNeedySequenceSaid : Prop := fnExactNeedySequenceRow.holds Try.pinned (OpenSpec.ofChange fnExactNeedySequenceSpec)

/-- ITS FALSE NEIGHBOUR: 'it returns false'. Refute it at one input. -/
def fnExactNeedySequenceWrong : ChangeSpec := { name := "fnExactNeedySequence", fn := fun _ => fun
  | [d] => { results := [.lit (.bool false)], args := [d] }
  | _ => none }
def FnExactNeedySequenceWrongFalsely : Prop := fnExactNeedySequenceRow.holds Try.pinned (OpenSpec.ofChange fnExactNeedySequenceWrong)

/-- 'laws.FnExactIsDoubly': WHATEVER THE INPUT: true; the input reads as it did. -/
def fnExactIsDoublySpec : ChangeSpec := { name := "fnExactIsDoubly", fn := fun _ => fun
  | [d] => { results := [.lit (.bool true)], args := [d] }
  | _ => none }
def fnExactIsDoublyRow : OpenClaim := { program := "ytggnpbcekiojdaa", sum := "bef3db95c8aaf662f3d86494e3eac6820780a59cb504374976d1fefc93a84969", func := "loop.example/g01129/laws.FnExactIsDoubly", spec := "fnExactIsDoubly", unfollowed := true, recurses := true, apart := false }
def FnExactIsDoublySaid : Prop := fnExactIsDoublyRow.holds Try.pinned (OpenSpec.ofChange fnExactIsDoublySpec)

/-- ITS FALSE NEIGHBOUR: 'it returns false'. Refute it at one input. -/
def fnExactIsDoublyWrong : ChangeSpec := { name := "fnExactIsDoubly", fn := fun _ => fun
  | [d] => { results := [.lit (.bool false)], args := [d] }
  | _ => none }
def FnExactIsDoublyWrongFalsely : Prop := fnExactIsDoublyRow.holds Try.pinned (OpenSpec.ofChange fnExactIsDoublyWrong)

/-- 'laws.FnExactValidMixture': WHATEVER THE INPUT: true; the input reads as it did. -/
def fnExactValidMixtureSpec : ChangeSpec := { name := "fnExactValidMixture", fn := fun _ => fun
  | [d] => { results := [.lit (.bool true)], args := [d] }
  | _ => none }
def fnExactValidMixtureRow : OpenClaim := { program := "ytggnpbcekiojdaa", sum := "bef3db95c8aaf662f3d86494e3eac6820780a59cb504374976d1fefc93a84969", func := "loop.example/g01129/laws.FnExactValidMixture", spec := "fnExactValidMixture", unfollowed := true, recurses := true, apart := false }
def FnExactValidMixtureSaid : Prop := fnExactValidMixtureRow.holds Try.pinned (OpenSpec.ofChange fnExactValidMixtureSpec)

/-- ITS FALSE NEIGHBOUR: 'it returns false'. Refute it at one input. -/
def fnExactValidMixtureWrong : ChangeSpec := { name := "fnExactValidMixture", fn := fun _ => fun
  | [d] => { results := [.lit (.bool false)], args := [d] }
  | _ => none }
def FnExactValidMixtureWrongFalsely : Prop := fnExactValidMixtureRow.holds Try.pinned (OpenSpec.ofChange fnExactValidMixtureWrong)

/- THE SECOND FORM. 'bulk': how many values and letters a reading holds, each counted each time it is reached (what is shared counts as often as it is met; a slice's spare places count too). A statement '..UptoSaid' is the law's where the arguments, and the package variables that the reading takes, are together of bulk at most 1048576: NARROWER than '..Said'. Prove '..Said' where nothing that the law and all that it calls make is longer than what came in: it says more and counts as full. Else prove '..UptoSaid'. A law counts once. -/
mutual
def uptoBulk {H : Type} : DataW H → Nat
  | .lit (.string bytes) => bytes.length + 1
  | .lit _ => 1
  | .nil => 1
  | .ptr d => uptoBulk d + 1
  | .slice elems spare => uptoBulkAll elems + uptoBulkAll spare + 1
  | .agg parts => uptoBulkAll parts + 1
  | .iface _ d => uptoBulk d + 1
  | .map entries => uptoBulkEntries entries + 1
  | .held _ => 1
def uptoBulkAll {H : Type} : List (DataW H) → Nat
  | [] => 0
  | d :: r => uptoBulk d + uptoBulkAll r
def uptoBulkEntries {H : Type} : List (Lit × DataW H) → Nat
  | [] => 0
  | x :: r => uptoBulkEntry x + uptoBulkEntries r
def uptoBulkEntry {H : Type} : Lit × DataW H → Nat
  | (.string bytes, d) => bytes.length + uptoBulk d + 1
  | (_, d) => uptoBulk d + 1
 end
def uptoSmall : (H : Type) → List (DataW H) → Bool := fun _ ds => decide (uptoBulkAll ds ≤ 1048576)
def OpenSpec.upto (s : _root_.Go.ChangeSpec) : _root_.Go.OpenSpec := { _root_.Go.OpenSpec.ofChange s with cond := some uptoSmall }

/-- 'laws.FnExactCountBalanced', WHERE WHAT IT READS IS OF BULK AT MOST 1048576: true; the input reads as it did. -/
def fnExactCountBalancedUptoRow : OpenClaim := { program := "ytggnpbcekiojdaa", sum := "bef3db95c8aaf662f3d86494e3eac6820780a59cb504374976d1fefc93a84969", func := "loop.example/g01129/laws.FnExactCountBalanced", spec := "fnExactCountBalanced", apart := false, narrowed := true }
def FnExactCountBalancedUptoSaid : Prop := fnExactCountBalancedUptoRow.holds Try.pinned (OpenSpec.upto fnExactCountBalancedSpec)

/-- 'laws.FnExactLineWord', WHERE WHAT IT READS IS OF BULK AT MOST 1048576: true; the input reads as it did. -/
def fnExactLineWordUptoRow : OpenClaim := { program := "ytggnpbcekiojdaa", sum := "bef3db95c8aaf662f3d86494e3eac6820780a59cb504374976d1fefc93a84969", func := "loop.example/g01129/laws.FnExactLineWord", spec := "fnExactLineWord", apart := false, narrowed := true }
def FnExactLineWordUptoSaid : Prop := fnExactLineWordUptoRow.holds Try.pinned (OpenSpec.upto fnExactLineWordSpec)

/-- 'laws.FnExactContinuedOf', WHERE WHAT IT READS IS OF BULK AT MOST 1048576: true; the input reads as it did. -/
def fnExactContinuedOfUptoRow : OpenClaim := { program := "ytggnpbcekiojdaa", sum := "bef3db95c8aaf662f3d86494e3eac6820780a59cb504374976d1fefc93a84969", func := "loop.example/g01129/laws.FnExactContinuedOf", spec := "fnExactContinuedOf", apart := false, narrowed := true }
def FnExactContinuedOfUptoSaid : Prop := fnExactContinuedOfUptoRow.holds Try.pinned (OpenSpec.upto fnExactContinuedOfSpec)

/-- 'laws.FnExactValidDemands', WHERE WHAT IT READS IS OF BULK AT MOST 1048576: true; the input reads as it did. -/
def fnExactValidDemandsUptoRow : OpenClaim := { program := "ytggnpbcekiojdaa", sum := "bef3db95c8aaf662f3d86494e3eac6820780a59cb504374976d1fefc93a84969", func := "loop.example/g01129/laws.FnExactValidDemands", spec := "fnExactValidDemands", unfollowed := true, recurses := true, apart := false, narrowed := true }
def FnExactValidDemandsUptoSaid : Prop := fnExactValidDemandsUptoRow.holds Try.pinned (OpenSpec.upto fnExactValidDemandsSpec)

/-- 'laws.FnExactChristoffelWord', WHERE WHAT IT READS IS OF BULK AT MOST 1048576: true; the input reads as it did. -/
def fnExactChristoffelWordUptoRow : OpenClaim := { program := "ytggnpbcekiojdaa", sum := "bef3db95c8aaf662f3d86494e3eac6820780a59cb504374976d1fefc93a84969", func := "loop.example/g01129/laws.FnExactChristoffelWord", spec := "fnExactChristoffelWord", apart := false, narrowed := true }
def FnExactChristoffelWordUptoSaid : Prop := fnExactChristoffelWordUptoRow.holds Try.pinned (OpenSpec.upto fnExactChristoffelWordSpec)

/-- 'laws.FnBalancedCount', WHERE WHAT IT READS IS OF BULK AT MOST 1048576: true; the input reads as it did. -/
def fnBalancedCountUptoRow : OpenClaim := { program := "ytggnpbcekiojdaa", sum := "bef3db95c8aaf662f3d86494e3eac6820780a59cb504374976d1fefc93a84969", func := "loop.example/g01129/laws.FnBalancedCount", spec := "fnBalancedCount", apart := false, narrowed := true }
def FnBalancedCountUptoSaid : Prop := fnBalancedCountUptoRow.holds Try.pinned (OpenSpec.upto fnBalancedCountSpec)

/-- 'laws.FnExactFromContinued', WHERE WHAT IT READS IS OF BULK AT MOST 1048576: true; the input reads as it did. -/
def fnExactFromContinuedUptoRow : OpenClaim := { program := "ytggnpbcekiojdaa", sum := "bef3db95c8aaf662f3d86494e3eac6820780a59cb504374976d1fefc93a84969", func := "loop.example/g01129/laws.FnExactFromContinued", spec := "fnExactFromContinued", unfollowed := true, recurses := true, apart := false, narrowed := true }
def FnExactFromContinuedUptoSaid : Prop := fnExactFromContinuedUptoRow.holds Try.pinned (OpenSpec.upto fnExactFromContinuedSpec)

/-- 'laws.FnExactIsSequence', WHERE WHAT IT READS IS OF BULK AT MOST 1048576: true; the input reads as it did. -/
def fnExactIsSequenceUptoRow : OpenClaim := { program := "ytggnpbcekiojdaa", sum := "bef3db95c8aaf662f3d86494e3eac6820780a59cb504374976d1fefc93a84969", func := "loop.example/g01129/laws.FnExactIsSequence", spec := "fnExactIsSequence", unfollowed := true, recurses := true, apart := false, narrowed := true }
def FnExactIsSequenceUptoSaid : Prop := fnExactIsSequenceUptoRow.holds Try.pinned (OpenSpec.upto fnExactIsSequenceSpec)

/-- 'laws.FnExactValidTable', WHERE WHAT IT READS IS OF BULK AT MOST 1048576: true; the input reads as it did. -/
def fnExactValidTableUptoRow : OpenClaim := { program := "ytggnpbcekiojdaa", sum := "bef3db95c8aaf662f3d86494e3eac6820780a59cb504374976d1fefc93a84969", func := "loop.example/g01129/laws.FnExactValidTable", spec := "fnExactValidTable", unfollowed := true, recurses := true, apart := false, narrowed := true }
def FnExactValidTableUptoSaid : Prop := fnExactValidTableUptoRow.holds Try.pinned (OpenSpec.upto fnExactValidTableSpec)

/-- 'laws.FnExactNeedySequence', WHERE WHAT IT READS IS OF BULK AT MOST 1048576: true; the input reads as it did. -/
def fnExactNeedySequenceUptoRow : OpenClaim := { program := "ytggnpbcekiojdaa", sum := "bef3db95c8aaf662f3d86494e3eac6820780a59cb504374976d1fefc93a84969", func := "loop.example/g01129/laws.FnExactNeedySequence", spec := "fnExactNeedySequence", unfollowed := true, recurses := true, apart := false, narrowed := true }
def FnExactNeedySequenceUptoSaid : Prop := fnExactNeedySequenceUptoRow.holds Try.pinned (OpenSpec.upto fnExactNeedySequenceSpec)

/-- 'laws.FnExactIsDoubly', WHERE WHAT IT READS IS OF BULK AT MOST 1048576: true; the input reads as it did. -/
def fnExactIsDoublyUptoRow : OpenClaim := { program := "ytggnpbcekiojdaa", sum := "bef3db95c8aaf662f3d86494e3eac6820780a59cb504374976d1fefc93a84969", func := "loop.example/g01129/laws.FnExactIsDoubly", spec := "fnExactIsDoubly", unfollowed := true, recurses := true, apart := false, narrowed := true }
def FnExactIsDoublyUptoSaid : Prop := fnExactIsDoublyUptoRow.holds Try.pinned (OpenSpec.upto fnExactIsDoublySpec)

/-- 'laws.FnExactValidMixture', WHERE WHAT IT READS IS OF BULK AT MOST 1048576: true; the input reads as it did. -/
def fnExactValidMixtureUptoRow : OpenClaim := { program := "ytggnpbcekiojdaa", sum := "bef3db95c8aaf662f3d86494e3eac6820780a59cb504374976d1fefc93a84969", func := "loop.example/g01129/laws.FnExactValidMixture", spec := "fnExactValidMixture", unfollowed := true, recurses := true, apart := false, narrowed := true }
def FnExactValidMixtureUptoSaid : Prop := fnExactValidMixtureUptoRow.holds Try.pinned (OpenSpec.upto fnExactValidMixtureSpec)

end Rows
end Go.Proofs.Ytggnpbcekiojdaa
