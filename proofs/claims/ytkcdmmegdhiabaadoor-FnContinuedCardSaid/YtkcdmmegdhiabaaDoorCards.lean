/-
  DERIVED. GIVEN WITH THE SEED: THE CARDS: each row of YtkcdmmegdhiabaaDoorRows.lean that lists a variable, with what it lists TIED to the program's text (the seventh form; the later family's looks); each row that meets fmt, with fmt's text TOLD by the authors' own Lean function (tested against real Go, not proved from fmt's source: count such statements apart). THE CARD IS WHAT COUNTS. Prove the row's statement (the work); the ties are given (YtkcdmmegdhiabaaDoorTie.lean); close each card by the builder's one call (the guide's Derived/Test/ToyasCard.lean, 'card_holds'). Laid BY PROGRAM, IN A SANDBOX (cutbox-door.mjs). By AI agents, Wed Nov 11 2026. No macro, syntax, notation, axiom, sorry.
-/
import Derived.Test.YtkcdmmegdhiabaaDoorRows
import GoSem.ClaimSeven
namespace Go.Proofs.YtkcdmmegdhiabaaDoor
namespace Rows

/-- THE TIED CARD OF 'laws.FnChristoffel'. -/
def fnChristoffelCard : Claim7 := { stood := { row := fnChristoffelRow, standIns := [], harness := (true, "357fe8341e5e8a54bd1f6185a356982e4ad3660df6f255b4105aaf817956803a"), looks := false }, kinds := [], alts := [], laidByText := true, laidKinds := [.data, .pinned], laidTests := true, laidLooks := .later }
def FnChristoffelCardSaid : Prop := Claim7.holds Tryd.pinned (.plain (OpenSpec.ofChange fnChristoffelSpec)) fnChristoffelCard

/-- THE TIED CARD OF 'laws.FnContinued'. -/
def fnContinuedCard : Claim7 := { stood := { row := fnContinuedRow, standIns := [], harness := (true, "357fe8341e5e8a54bd1f6185a356982e4ad3660df6f255b4105aaf817956803a"), looks := false }, kinds := [], alts := [], laidByText := true, laidKinds := [.data, .pinned], laidTests := true, laidLooks := .later }
def FnContinuedCardSaid : Prop := Claim7.holds Tryd.pinned (.plain (OpenSpec.ofChange fnContinuedSpec)) fnContinuedCard

/-- THE SECOND FORM's CARD OF 'laws.FnChristoffel'. -/
def fnChristoffelUptoCard : Claim7 := { stood := { row := fnChristoffelUptoRow, standIns := [], harness := (true, "357fe8341e5e8a54bd1f6185a356982e4ad3660df6f255b4105aaf817956803a"), looks := false }, kinds := [], alts := [], laidByText := true, laidKinds := [.data, .pinned], laidTests := true, laidLooks := .later }
def FnChristoffelUptoCardSaid : Prop := Claim7.holds Tryd.pinned (.plain (OpenSpec.upto fnChristoffelSpec)) fnChristoffelUptoCard

/-- THE SECOND FORM's CARD OF 'laws.FnContinued'. -/
def fnContinuedUptoCard : Claim7 := { stood := { row := fnContinuedUptoRow, standIns := [], harness := (true, "357fe8341e5e8a54bd1f6185a356982e4ad3660df6f255b4105aaf817956803a"), looks := false }, kinds := [], alts := [], laidByText := true, laidKinds := [.data, .pinned], laidTests := true, laidLooks := .later }
def FnContinuedUptoCardSaid : Prop := Claim7.holds Tryd.pinned (.plain (OpenSpec.upto fnContinuedSpec)) fnContinuedUptoCard
end Rows
end Go.Proofs.YtkcdmmegdhiabaaDoor
