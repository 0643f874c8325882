/-
  No cell of these rows narrows 'for every input' (looked for: loops, veiled, ifaces, maps, wideKeys, modest, calm, conditions, laid).
  DERIVED. THE GIVEN ROWS OF THIS SEAT. 12 by the template 'for every input the law returns true; each argument reads behind the call as it read before'; 0 by the template 'total and deterministic' (their statements: YtlhpejabdmejbaaTotals.lean).
  GIVEN WITH THE SEED: the statements are not yours to turn. If you find one false, say at which input.
  Laid BY PROGRAM, IN A SANDBOX (cutbox-rows.mjs): the forced cells as the released guide's own fill.sh prints them over the translation b9699b62a5646450… (all of the seat's roots in one cut). By AI agents, Wed Nov 11 2026. No macro, syntax, notation, axiom, sorry.
-/
import Derived.Test.YtlhpejabdmejbaaChecked
import GoSem.Claim
import GoSem.ClaimJoined
import GoSem.ClaimMapViews
import Derived.JoinedTies
import Derived.KernelRfl
namespace Go.Proofs.Ytlhpejabdmejbaa
/- THE CELL 'sum', in the pinned program and in every row, IS THE sha256 OF THE DUMP (.gsa) THAT YtlhpejabdmejbaaProg.lean LOADS. Nothing in Lean hashes anything: it is a label: what it is worth is what the hold of that sum in a sandbox is worth. -/
noncomputable def Try.pinned : Pinned := { name := "ytlhpejabdmejbaa", sum := "b9699b62a5646450a695b7d2edead9a98b19d7120e8c291514512087d96efc70", checked := Try.checked }
namespace Rows
def none {H : Type} : Left H := { results := [], args := [] }

/-- 'laws.FnExactPairWeight': WHATEVER THE INPUT: true; the input reads as it did. -/
def fnExactPairWeightSpec : ChangeSpec := { name := "fnExactPairWeight", fn := fun _ => fun
  | [d1, d2, d3, d4, d5] => { results := [.lit (.bool true)], args := [d1, d2, d3, d4, d5] }
  | _ => none }
def fnExactPairWeightRow : OpenClaim := { program := "ytlhpejabdmejbaa", sum := "b9699b62a5646450a695b7d2edead9a98b19d7120e8c291514512087d96efc70", func := "loop.example/g01129/laws.FnExactPairWeight", spec := "fnExactPairWeight", unfollowed := true, recurses := true, apart := false }
def FnExactPairWeightSaid : Prop := fnExactPairWeightRow.holds Try.pinned (OpenSpec.ofChange fnExactPairWeightSpec)

/-- ITS FALSE NEIGHBOUR: 'it returns false'. Refute it at one input. -/
def fnExactPairWeightWrong : ChangeSpec := { name := "fnExactPairWeight", fn := fun _ => fun
  | [d1, d2, d3, d4, d5] => { results := [.lit (.bool false)], args := [d1, d2, d3, d4, d5] }
  | _ => none }
def FnExactPairWeightWrongFalsely : Prop := fnExactPairWeightRow.holds Try.pinned (OpenSpec.ofChange fnExactPairWeightWrong)

/-- 'laws.FnExactDrawFrom': WHATEVER THE INPUT: true; the input reads as it did. -/
def fnExactDrawFromSpec : ChangeSpec := { name := "fnExactDrawFrom", fn := fun _ => fun
  | [d1, d2] => { results := [.lit (.bool true)], args := [d1, d2] }
  | _ => none }
def fnExactDrawFromRow : OpenClaim := { program := "ytlhpejabdmejbaa", sum := "b9699b62a5646450a695b7d2edead9a98b19d7120e8c291514512087d96efc70", func := "loop.example/g01129/laws.FnExactDrawFrom", spec := "fnExactDrawFrom", unfollowed := true, recurses := true, apart := false }
def FnExactDrawFromSaid : Prop := fnExactDrawFromRow.holds Try.pinned (OpenSpec.ofChange fnExactDrawFromSpec)

/-- ITS FALSE NEIGHBOUR: 'it returns false'. Refute it at one input. -/
def fnExactDrawFromWrong : ChangeSpec := { name := "fnExactDrawFrom", fn := fun _ => fun
  | [d1, d2] => { results := [.lit (.bool false)], args := [d1, d2] }
  | _ => none }
def FnExactDrawFromWrongFalsely : Prop := fnExactDrawFromRow.holds Try.pinned (OpenSpec.ofChange fnExactDrawFromWrong)

/-- 'laws.FnExactIsMixtureOf': WHATEVER THE INPUT: true; the input reads as it did. -/
def fnExactIsMixtureOfSpec : ChangeSpec := { name := "fnExactIsMixtureOf", fn := fun _ => fun
  | [d1, d2] => { results := [.lit (.bool true)], args := [d1, d2] }
  | _ => none }
def fnExactIsMixtureOfRow : OpenClaim := { program := "ytlhpejabdmejbaa", sum := "b9699b62a5646450a695b7d2edead9a98b19d7120e8c291514512087d96efc70", func := "loop.example/g01129/laws.FnExactIsMixtureOf", spec := "fnExactIsMixtureOf", unfollowed := true, recurses := true, apart := false }
def FnExactIsMixtureOfSaid : Prop := fnExactIsMixtureOfRow.holds Try.pinned (OpenSpec.ofChange fnExactIsMixtureOfSpec)

/-- ITS FALSE NEIGHBOUR: 'it returns false'. Refute it at one input. -/
def fnExactIsMixtureOfWrong : ChangeSpec := { name := "fnExactIsMixtureOf", fn := fun _ => fun
  | [d1, d2] => { results := [.lit (.bool false)], args := [d1, d2] }
  | _ => none }
def FnExactIsMixtureOfWrongFalsely : Prop := fnExactIsMixtureOfRow.holds Try.pinned (OpenSpec.ofChange fnExactIsMixtureOfWrong)

/-- 'laws.FnExactMixtureMeans': WHATEVER THE INPUT: true; the input reads as it did. -/
def fnExactMixtureMeansSpec : ChangeSpec := { name := "fnExactMixtureMeans", fn := fun _ => fun
  | [d] => { results := [.lit (.bool true)], args := [d] }
  | _ => none }
def fnExactMixtureMeansRow : OpenClaim := { program := "ytlhpejabdmejbaa", sum := "b9699b62a5646450a695b7d2edead9a98b19d7120e8c291514512087d96efc70", func := "loop.example/g01129/laws.FnExactMixtureMeans", spec := "fnExactMixtureMeans", unfollowed := true, recurses := true, apart := false }
def FnExactMixtureMeansSaid : Prop := fnExactMixtureMeansRow.holds Try.pinned (OpenSpec.ofChange fnExactMixtureMeansSpec)

/-- ITS FALSE NEIGHBOUR: 'it returns false'. Refute it at one input. -/
def fnExactMixtureMeansWrong : ChangeSpec := { name := "fnExactMixtureMeans", fn := fun _ => fun
  | [d] => { results := [.lit (.bool false)], args := [d] }
  | _ => none }
def FnExactMixtureMeansWrongFalsely : Prop := fnExactMixtureMeansRow.holds Try.pinned (OpenSpec.ofChange fnExactMixtureMeansWrong)

/-- 'laws.FnExactPermutationMixture': WHATEVER THE INPUT: true; the input reads as it did. -/
def fnExactPermutationMixtureSpec : ChangeSpec := { name := "fnExactPermutationMixture", fn := fun _ => fun
  | [d] => { results := [.lit (.bool true)], args := [d] }
  | _ => none }
def fnExactPermutationMixtureRow : OpenClaim := { program := "ytlhpejabdmejbaa", sum := "b9699b62a5646450a695b7d2edead9a98b19d7120e8c291514512087d96efc70", func := "loop.example/g01129/laws.FnExactPermutationMixture", spec := "fnExactPermutationMixture", unfollowed := true, recurses := true, apart := false }
def FnExactPermutationMixtureSaid : Prop := fnExactPermutationMixtureRow.holds Try.pinned (OpenSpec.ofChange fnExactPermutationMixtureSpec)

/-- ITS FALSE NEIGHBOUR: 'it returns false'. Refute it at one input. -/
def fnExactPermutationMixtureWrong : ChangeSpec := { name := "fnExactPermutationMixture", fn := fun _ => fun
  | [d] => { results := [.lit (.bool false)], args := [d] }
  | _ => none }
def FnExactPermutationMixtureWrongFalsely : Prop := fnExactPermutationMixtureRow.holds Try.pinned (OpenSpec.ofChange fnExactPermutationMixtureWrong)

/-- 'laws.FnExactSystematicIn': WHATEVER THE INPUT: true; the input reads as it did. -/
def fnExactSystematicInSpec : ChangeSpec := { name := "fnExactSystematicIn", fn := fun _ => fun
  | [d1, d2] => { results := [.lit (.bool true)], args := [d1, d2] }
  | _ => none }
def fnExactSystematicInRow : OpenClaim := { program := "ytlhpejabdmejbaa", sum := "b9699b62a5646450a695b7d2edead9a98b19d7120e8c291514512087d96efc70", func := "loop.example/g01129/laws.FnExactSystematicIn", spec := "fnExactSystematicIn", unfollowed := true, recurses := true, apart := false }
def FnExactSystematicInSaid : Prop := fnExactSystematicInRow.holds Try.pinned (OpenSpec.ofChange fnExactSystematicInSpec)

/-- ITS FALSE NEIGHBOUR: 'it returns false'. Refute it at one input. -/
def fnExactSystematicInWrong : ChangeSpec := { name := "fnExactSystematicIn", fn := fun _ => fun
  | [d1, d2] => { results := [.lit (.bool false)], args := [d1, d2] }
  | _ => none }
def FnExactSystematicInWrongFalsely : Prop := fnExactSystematicInRow.holds Try.pinned (OpenSpec.ofChange fnExactSystematicInWrong)

/-- 'laws.FnExactSumWeights': WHATEVER THE INPUT: true; the input reads as it did. -/
def fnExactSumWeightsSpec : ChangeSpec := { name := "fnExactSumWeights", fn := fun _ => fun
  | [d] => { results := [.lit (.bool true)], args := [d] }
  | _ => none }
def fnExactSumWeightsRow : OpenClaim := { program := "ytlhpejabdmejbaa", sum := "b9699b62a5646450a695b7d2edead9a98b19d7120e8c291514512087d96efc70", func := "loop.example/g01129/laws.FnExactSumWeights", spec := "fnExactSumWeights", unfollowed := true, recurses := true, apart := false }
def FnExactSumWeightsSaid : Prop := fnExactSumWeightsRow.holds Try.pinned (OpenSpec.ofChange fnExactSumWeightsSpec)

/-- ITS FALSE NEIGHBOUR: 'it returns false'. Refute it at one input. -/
def fnExactSumWeightsWrong : ChangeSpec := { name := "fnExactSumWeights", fn := fun _ => fun
  | [d] => { results := [.lit (.bool false)], args := [d] }
  | _ => none }
def FnExactSumWeightsWrongFalsely : Prop := fnExactSumWeightsRow.holds Try.pinned (OpenSpec.ofChange fnExactSumWeightsWrong)

/-- 'laws.FnExactSystematicMixture': WHATEVER THE INPUT: true; the input reads as it did. -/
def fnExactSystematicMixtureSpec : ChangeSpec := { name := "fnExactSystematicMixture", fn := fun _ => fun
  | [d] => { results := [.lit (.bool true)], args := [d] }
  | _ => none }
def fnExactSystematicMixtureRow : OpenClaim := { program := "ytlhpejabdmejbaa", sum := "b9699b62a5646450a695b7d2edead9a98b19d7120e8c291514512087d96efc70", func := "loop.example/g01129/laws.FnExactSystematicMixture", spec := "fnExactSystematicMixture", unfollowed := true, recurses := true, apart := false }
def FnExactSystematicMixtureSaid : Prop := fnExactSystematicMixtureRow.holds Try.pinned (OpenSpec.ofChange fnExactSystematicMixtureSpec)

/-- ITS FALSE NEIGHBOUR: 'it returns false'. Refute it at one input. -/
def fnExactSystematicMixtureWrong : ChangeSpec := { name := "fnExactSystematicMixture", fn := fun _ => fun
  | [d] => { results := [.lit (.bool false)], args := [d] }
  | _ => none }
def FnExactSystematicMixtureWrongFalsely : Prop := fnExactSystematicMixtureRow.holds Try.pinned (OpenSpec.ofChange fnExactSystematicMixtureWrong)

/-- 'laws.FnPermutations': WHATEVER THE INPUT: true; the input reads as it did. -/
def fnPermutationsSpec : ChangeSpec := { name := "fnPermutations", fn := fun _ => fun
  | [d1, d2] => { results := [.lit (.bool true)], args := [d1, d2] }
  | _ => none }
def fnPermutationsRow : OpenClaim := { program := "ytlhpejabdmejbaa", sum := "b9699b62a5646450a695b7d2edead9a98b19d7120e8c291514512087d96efc70", func := "loop.example/g01129/laws.FnPermutations", spec := "fnPermutations", unfollowed := true, recurses := true, apart := false }
def FnPermutationsSaid : Prop := fnPermutationsRow.holds Try.pinned (OpenSpec.ofChange fnPermutationsSpec)

/-- ITS FALSE NEIGHBOUR: 'it returns false'. Refute it at one input. -/
def fnPermutationsWrong : ChangeSpec := { name := "fnPermutations", fn := fun _ => fun
  | [d1, d2] => { results := [.lit (.bool false)], args := [d1, d2] }
  | _ => none }
def FnPermutationsWrongFalsely : Prop := fnPermutationsRow.holds Try.pinned (OpenSpec.ofChange fnPermutationsWrong)

/-- 'laws.FnTickets': WHATEVER THE INPUT: true; the input reads as it did. -/
def fnTicketsSpec : ChangeSpec := { name := "fnTickets", fn := fun _ => fun
  | [d1, d2] => { results := [.lit (.bool true)], args := [d1, d2] }
  | _ => none }
def fnTicketsRow : OpenClaim := { program := "ytlhpejabdmejbaa", sum := "b9699b62a5646450a695b7d2edead9a98b19d7120e8c291514512087d96efc70", func := "loop.example/g01129/laws.FnTickets", spec := "fnTickets", unfollowed := true, recurses := true, apart := false }
def FnTicketsSaid : Prop := fnTicketsRow.holds Try.pinned (OpenSpec.ofChange fnTicketsSpec)

/-- ITS FALSE NEIGHBOUR: 'it returns false'. Refute it at one input. -/
def fnTicketsWrong : ChangeSpec := { name := "fnTickets", fn := fun _ => fun
  | [d1, d2] => { results := [.lit (.bool false)], args := [d1, d2] }
  | _ => none }
def FnTicketsWrongFalsely : Prop := fnTicketsRow.holds Try.pinned (OpenSpec.ofChange fnTicketsWrong)

/-- 'laws.FnSystematic': WHATEVER THE INPUT: true; the input reads as it did. -/
def fnSystematicSpec : ChangeSpec := { name := "fnSystematic", fn := fun _ => fun
  | [d1, d2] => { results := [.lit (.bool true)], args := [d1, d2] }
  | _ => none }
def fnSystematicRow : OpenClaim := { program := "ytlhpejabdmejbaa", sum := "b9699b62a5646450a695b7d2edead9a98b19d7120e8c291514512087d96efc70", func := "loop.example/g01129/laws.FnSystematic", spec := "fnSystematic", unfollowed := true, recurses := true, apart := false }
def FnSystematicSaid : Prop := fnSystematicRow.holds Try.pinned (OpenSpec.ofChange fnSystematicSpec)

/-- ITS FALSE NEIGHBOUR: 'it returns false'. Refute it at one input. -/
def fnSystematicWrong : ChangeSpec := { name := "fnSystematic", fn := fun _ => fun
  | [d1, d2] => { results := [.lit (.bool false)], args := [d1, d2] }
  | _ => none }
def FnSystematicWrongFalsely : Prop := fnSystematicRow.holds Try.pinned (OpenSpec.ofChange fnSystematicWrong)

/-- 'laws.FnMeans': WHATEVER THE INPUT: true; the input reads as it did. -/
def fnMeansSpec : ChangeSpec := { name := "fnMeans", fn := fun _ => fun
  | [d1, d2] => { results := [.lit (.bool true)], args := [d1, d2] }
  | _ => none }
def fnMeansRow : OpenClaim := { program := "ytlhpejabdmejbaa", sum := "b9699b62a5646450a695b7d2edead9a98b19d7120e8c291514512087d96efc70", func := "loop.example/g01129/laws.FnMeans", spec := "fnMeans", unfollowed := true, recurses := true, apart := false }
def FnMeansSaid : Prop := fnMeansRow.holds Try.pinned (OpenSpec.ofChange fnMeansSpec)

/-- ITS FALSE NEIGHBOUR: 'it returns false'. Refute it at one input. -/
def fnMeansWrong : ChangeSpec := { name := "fnMeans", fn := fun _ => fun
  | [d1, d2] => { results := [.lit (.bool false)], args := [d1, d2] }
  | _ => none }
def FnMeansWrongFalsely : Prop := fnMeansRow.holds Try.pinned (OpenSpec.ofChange fnMeansWrong)

/- THE SECOND FORM. 'bulk': how many values and letters a reading holds, each counted each time it is reached (what is shared counts as often as it is met; a slice's spare places count too). A statement '..UptoSaid' is the law's where the arguments, and the package variables that the reading takes, are together of bulk at most 1048576: NARROWER than '..Said'. Prove '..Said' where nothing that the law and all that it calls make is longer than what came in: it says more and counts as full. Else prove '..UptoSaid'. A law counts once. -/
mutual
def uptoBulk {H : Type} : DataW H → Nat
  | .lit (.string bytes) => bytes.length + 1
  | .lit _ => 1
  | .nil => 1
  | .ptr d => uptoBulk d + 1
  | .slice elems spare => uptoBulkAll elems + uptoBulkAll spare + 1
  | .agg parts => uptoBulkAll parts + 1
  | .iface _ d => uptoBulk d + 1
  | .map entries => uptoBulkEntries entries + 1
  | .held _ => 1
def uptoBulkAll {H : Type} : List (DataW H) → Nat
  | [] => 0
  | d :: r => uptoBulk d + uptoBulkAll r
def uptoBulkEntries {H : Type} : List (Lit × DataW H) → Nat
  | [] => 0
  | x :: r => uptoBulkEntry x + uptoBulkEntries r
def uptoBulkEntry {H : Type} : Lit × DataW H → Nat
  | (.string bytes, d) => bytes.length + uptoBulk d + 1
  | (_, d) => uptoBulk d + 1
 end
def uptoSmall : (H : Type) → List (DataW H) → Bool := fun _ ds => decide (uptoBulkAll ds ≤ 1048576)
def OpenSpec.upto (s : _root_.Go.ChangeSpec) : _root_.Go.OpenSpec := { _root_.Go.OpenSpec.ofChange s with cond := some uptoSmall }

/-- 'laws.FnExactPairWeight', WHERE WHAT IT READS IS OF BULK AT MOST 1048576: true; the input reads as it did. -/
def fnExactPairWeightUptoRow : OpenClaim := { program := "ytlhpejabdmejbaa", sum := "b9699b62a5646450a695b7d2edead9a98b19d7120e8c291514512087d96efc70", func := "loop.example/g01129/laws.FnExactPairWeight", spec := "fnExactPairWeight", unfollowed := true, recurses := true, apart := false, narrowed := true }
def FnExactPairWeightUptoSaid : Prop := fnExactPairWeightUptoRow.holds Try.pinned (OpenSpec.upto fnExactPairWeightSpec)

/-- 'laws.FnExactDrawFrom', WHERE WHAT IT READS IS OF BULK AT MOST 1048576: true; the input reads as it did. -/
def fnExactDrawFromUptoRow : OpenClaim := { program := "ytlhpejabdmejbaa", sum := "b9699b62a5646450a695b7d2edead9a98b19d7120e8c291514512087d96efc70", func := "loop.example/g01129/laws.FnExactDrawFrom", spec := "fnExactDrawFrom", unfollowed := true, recurses := true, apart := false, narrowed := true }
def FnExactDrawFromUptoSaid : Prop := fnExactDrawFromUptoRow.holds Try.pinned (OpenSpec.upto fnExactDrawFromSpec)

/-- 'laws.FnExactIsMixtureOf', WHERE WHAT IT READS IS OF BULK AT MOST 1048576: true; the input reads as it did. -/
def fnExactIsMixtureOfUptoRow : OpenClaim := { program := "ytlhpejabdmejbaa", sum := "b9699b62a5646450a695b7d2edead9a98b19d7120e8c291514512087d96efc70", func := "loop.example/g01129/laws.FnExactIsMixtureOf", spec := "fnExactIsMixtureOf", unfollowed := true, recurses := true, apart := false, narrowed := true }
def FnExactIsMixtureOfUptoSaid : Prop := fnExactIsMixtureOfUptoRow.holds Try.pinned (OpenSpec.upto fnExactIsMixtureOfSpec)

/-- 'laws.FnExactMixtureMeans', WHERE WHAT IT READS IS OF BULK AT MOST 1048576: true; the input reads as it did. -/
def fnExactMixtureMeansUptoRow : OpenClaim := { program := "ytlhpejabdmejbaa", sum := "b9699b62a5646450a695b7d2edead9a98b19d7120e8c291514512087d96efc70", func := "loop.example/g01129/laws.FnExactMixtureMeans", spec := "fnExactMixtureMeans", unfollowed := true, recurses := true, apart := false, narrowed := true }
def FnExactMixtureMeansUptoSaid : Prop := fnExactMixtureMeansUptoRow.holds Try.pinned (OpenSpec.upto fnExactMixtureMeansSpec)

/-- 'laws.FnExactPermutationMixture', WHERE WHAT IT READS IS OF BULK AT MOST 1048576: true; the input reads as it did. -/
def fnExactPermutationMixtureUptoRow : OpenClaim := { program := "ytlhpejabdmejbaa", sum := "b9699b62a5646450a695b7d2edead9a98b19d7120e8c291514512087d96efc70", func := "loop.example/g01129/laws.FnExactPermutationMixture", spec := "fnExactPermutationMixture", unfollowed := true, recurses := true, apart := false, narrowed := true }
def FnExactPermutationMixtureUptoSaid : Prop := fnExactPermutationMixtureUptoRow.holds Try.pinned (OpenSpec.upto fnExactPermutationMixtureSpec)

/-- 'laws.FnExactSystematicIn', WHERE WHAT IT READS IS OF BULK AT MOST 1048576: true; the input reads as it did. -/
def fnExactSystematicInUptoRow : OpenClaim := { program := "ytlhpejabdmejbaa", sum := "b9699b62a5646450a695b7d2edead9a98b19d7120e8c291514512087d96efc70", func := "loop.example/g01129/laws.FnExactSystematicIn", spec := "fnExactSystematicIn", unfollowed := true, recurses := true, apart := false, narrowed := true }
def FnExactSystematicInUptoSaid : Prop := fnExactSystematicInUptoRow.holds Try.pinned (OpenSpec.upto fnExactSystematicInSpec)

/-- 'laws.FnExactSumWeights', WHERE WHAT IT READS IS OF BULK AT MOST 1048576: true; the input reads as it did. -/
def fnExactSumWeightsUptoRow : OpenClaim := { program := "ytlhpejabdmejbaa", sum := "b9699b62a5646450a695b7d2edead9a98b19d7120e8c291514512087d96efc70", func := "loop.example/g01129/laws.FnExactSumWeights", spec := "fnExactSumWeights", unfollowed := true, recurses := true, apart := false, narrowed := true }
def FnExactSumWeightsUptoSaid : Prop := fnExactSumWeightsUptoRow.holds Try.pinned (OpenSpec.upto fnExactSumWeightsSpec)

/-- 'laws.FnExactSystematicMixture', WHERE WHAT IT READS IS OF BULK AT MOST 1048576: true; the input reads as it did. -/
def fnExactSystematicMixtureUptoRow : OpenClaim := { program := "ytlhpejabdmejbaa", sum := "b9699b62a5646450a695b7d2edead9a98b19d7120e8c291514512087d96efc70", func := "loop.example/g01129/laws.FnExactSystematicMixture", spec := "fnExactSystematicMixture", unfollowed := true, recurses := true, apart := false, narrowed := true }
def FnExactSystematicMixtureUptoSaid : Prop := fnExactSystematicMixtureUptoRow.holds Try.pinned (OpenSpec.upto fnExactSystematicMixtureSpec)

/-- 'laws.FnPermutations', WHERE WHAT IT READS IS OF BULK AT MOST 1048576: true; the input reads as it did. -/
def fnPermutationsUptoRow : OpenClaim := { program := "ytlhpejabdmejbaa", sum := "b9699b62a5646450a695b7d2edead9a98b19d7120e8c291514512087d96efc70", func := "loop.example/g01129/laws.FnPermutations", spec := "fnPermutations", unfollowed := true, recurses := true, apart := false, narrowed := true }
def FnPermutationsUptoSaid : Prop := fnPermutationsUptoRow.holds Try.pinned (OpenSpec.upto fnPermutationsSpec)

/-- 'laws.FnTickets', WHERE WHAT IT READS IS OF BULK AT MOST 1048576: true; the input reads as it did. -/
def fnTicketsUptoRow : OpenClaim := { program := "ytlhpejabdmejbaa", sum := "b9699b62a5646450a695b7d2edead9a98b19d7120e8c291514512087d96efc70", func := "loop.example/g01129/laws.FnTickets", spec := "fnTickets", unfollowed := true, recurses := true, apart := false, narrowed := true }
def FnTicketsUptoSaid : Prop := fnTicketsUptoRow.holds Try.pinned (OpenSpec.upto fnTicketsSpec)

/-- 'laws.FnSystematic', WHERE WHAT IT READS IS OF BULK AT MOST 1048576: true; the input reads as it did. -/
def fnSystematicUptoRow : OpenClaim := { program := "ytlhpejabdmejbaa", sum := "b9699b62a5646450a695b7d2edead9a98b19d7120e8c291514512087d96efc70", func := "loop.example/g01129/laws.FnSystematic", spec := "fnSystematic", unfollowed := true, recurses := true, apart := false, narrowed := true }
def FnSystematicUptoSaid : Prop := fnSystematicUptoRow.holds Try.pinned (OpenSpec.upto fnSystematicSpec)

/-- 'laws.FnMeans', WHERE WHAT IT READS IS OF BULK AT MOST 1048576: true; the input reads as it did. -/
def fnMeansUptoRow : OpenClaim := { program := "ytlhpejabdmejbaa", sum := "b9699b62a5646450a695b7d2edead9a98b19d7120e8c291514512087d96efc70", func := "loop.example/g01129/laws.FnMeans", spec := "fnMeans", unfollowed := true, recurses := true, apart := false, narrowed := true }
def FnMeansUptoSaid : Prop := fnMeansUptoRow.holds Try.pinned (OpenSpec.upto fnMeansSpec)

end Rows
end Go.Proofs.Ytlhpejabdmejbaa
