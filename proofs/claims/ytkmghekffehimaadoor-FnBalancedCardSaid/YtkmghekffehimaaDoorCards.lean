/-
  DERIVED. GIVEN WITH THE SEED: THE CARDS: each row of YtkmghekffehimaaDoorRows.lean that lists a variable, with what it lists TIED to the program's text (the seventh form; the later family's looks); each row that meets fmt, with fmt's text TOLD by the authors' own Lean function (tested against real Go, not proved from fmt's source: count such statements apart). THE CARD IS WHAT COUNTS. Prove the row's statement (the work); the ties are given (YtkmghekffehimaaDoorTie.lean); close each card by the builder's one call (the guide's Derived/Test/ToyasCard.lean, 'card_holds'). Laid BY PROGRAM, IN A SANDBOX (cutbox-door.mjs). By AI agents, Wed Nov 11 2026. No macro, syntax, notation, axiom, sorry.
-/
import Derived.Test.YtkmghekffehimaaDoorRows
import GoSem.ClaimSeven
namespace Go.Proofs.YtkmghekffehimaaDoor
namespace Rows

/-- THE TIED CARD OF 'laws.FnExactIsWord'. -/
def fnExactIsWordCard : Claim7 := { stood := { row := fnExactIsWordRow, standIns := [], harness := (true, "48e87dd0e66b1f1d63a68d6263d82a673a3c694b9ef8f284a9ef969c6eb25d12"), looks := false }, kinds := [], alts := [], laidByText := true, laidKinds := [.data, .pinned], laidTests := true, laidLooks := .later }
def FnExactIsWordCardSaid : Prop := Claim7.holds Tryd.pinned (.plain (OpenSpec.ofChange fnExactIsWordSpec)) fnExactIsWordCard

/-- THE TIED CARD OF 'laws.FnExactPeriodOf'. -/
def fnExactPeriodOfCard : Claim7 := { stood := { row := fnExactPeriodOfRow, standIns := [], harness := (true, "48e87dd0e66b1f1d63a68d6263d82a673a3c694b9ef8f284a9ef969c6eb25d12"), looks := false }, kinds := [], alts := [], laidByText := true, laidKinds := [.data, .pinned], laidTests := true, laidLooks := .later }
def FnExactPeriodOfCardSaid : Prop := Claim7.holds Tryd.pinned (.plain (OpenSpec.ofChange fnExactPeriodOfSpec)) fnExactPeriodOfCard

/-- THE TIED CARD OF 'laws.FnExactHeightsOf'. -/
def fnExactHeightsOfCard : Claim7 := { stood := { row := fnExactHeightsOfRow, standIns := [], harness := (true, "48e87dd0e66b1f1d63a68d6263d82a673a3c694b9ef8f284a9ef969c6eb25d12"), looks := false }, kinds := [], alts := [], laidByText := true, laidKinds := [.data, .pinned], laidTests := true, laidLooks := .later }
def FnExactHeightsOfCardSaid : Prop := Claim7.holds Tryd.pinned (.plain (OpenSpec.ofChange fnExactHeightsOfSpec)) fnExactHeightsOfCard

/-- THE TIED CARD OF 'laws.FnExactIsBalanced'. -/
def fnExactIsBalancedCard : Claim7 := { stood := { row := fnExactIsBalancedRow, standIns := [], harness := (true, "48e87dd0e66b1f1d63a68d6263d82a673a3c694b9ef8f284a9ef969c6eb25d12"), looks := false }, kinds := [], alts := [], laidByText := true, laidKinds := [.data, .pinned], laidTests := true, laidLooks := .later }
def FnExactIsBalancedCardSaid : Prop := Claim7.holds Tryd.pinned (.plain (OpenSpec.ofChange fnExactIsBalancedSpec)) fnExactIsBalancedCard

/-- THE TIED CARD OF 'laws.FnExactSlopesOf'. -/
def fnExactSlopesOfCard : Claim7 := { stood := { row := fnExactSlopesOfRow, standIns := [], harness := (true, "48e87dd0e66b1f1d63a68d6263d82a673a3c694b9ef8f284a9ef969c6eb25d12"), looks := false }, kinds := [], alts := [], laidByText := true, laidKinds := [.data, .pinned], laidTests := true, laidLooks := .later }
def FnExactSlopesOfCardSaid : Prop := Claim7.holds Tryd.pinned (.plain (OpenSpec.ofChange fnExactSlopesOfSpec)) fnExactSlopesOfCard

/-- THE TIED CARD OF 'laws.FnExactLineFor'. -/
def fnExactLineForCard : Claim7 := { stood := { row := fnExactLineForRow, standIns := [], harness := (true, "48e87dd0e66b1f1d63a68d6263d82a673a3c694b9ef8f284a9ef969c6eb25d12"), looks := false }, kinds := [], alts := [], laidByText := true, laidKinds := [.data, .pinned], laidTests := true, laidLooks := .later }
def FnExactLineForCardSaid : Prop := Claim7.holds Tryd.pinned (.plain (OpenSpec.ofChange fnExactLineForSpec)) fnExactLineForCard

/-- THE TIED CARD OF 'laws.FnBalanced'. -/
def fnBalancedCard : Claim7 := { stood := { row := fnBalancedRow, standIns := [], harness := (true, "48e87dd0e66b1f1d63a68d6263d82a673a3c694b9ef8f284a9ef969c6eb25d12"), looks := false }, kinds := [], alts := [], laidByText := true, laidKinds := [.data, .pinned], laidTests := true, laidLooks := .later }
def FnBalancedCardSaid : Prop := Claim7.holds Tryd.pinned (.plain (OpenSpec.ofChange fnBalancedSpec)) fnBalancedCard

/-- THE TIED CARD OF 'laws.FnLines'. -/
def fnLinesCard : Claim7 := { stood := { row := fnLinesRow, standIns := [], harness := (true, "48e87dd0e66b1f1d63a68d6263d82a673a3c694b9ef8f284a9ef969c6eb25d12"), looks := false }, kinds := [], alts := [], laidByText := true, laidKinds := [.data, .pinned], laidTests := true, laidLooks := .later }
def FnLinesCardSaid : Prop := Claim7.holds Tryd.pinned (.plain (OpenSpec.ofChange fnLinesSpec)) fnLinesCard

/-- THE SECOND FORM's CARD OF 'laws.FnExactIsWord'. -/
def fnExactIsWordUptoCard : Claim7 := { stood := { row := fnExactIsWordUptoRow, standIns := [], harness := (true, "48e87dd0e66b1f1d63a68d6263d82a673a3c694b9ef8f284a9ef969c6eb25d12"), looks := false }, kinds := [], alts := [], laidByText := true, laidKinds := [.data, .pinned], laidTests := true, laidLooks := .later }
def FnExactIsWordUptoCardSaid : Prop := Claim7.holds Tryd.pinned (.plain (OpenSpec.upto fnExactIsWordSpec)) fnExactIsWordUptoCard

/-- THE SECOND FORM's CARD OF 'laws.FnExactPeriodOf'. -/
def fnExactPeriodOfUptoCard : Claim7 := { stood := { row := fnExactPeriodOfUptoRow, standIns := [], harness := (true, "48e87dd0e66b1f1d63a68d6263d82a673a3c694b9ef8f284a9ef969c6eb25d12"), looks := false }, kinds := [], alts := [], laidByText := true, laidKinds := [.data, .pinned], laidTests := true, laidLooks := .later }
def FnExactPeriodOfUptoCardSaid : Prop := Claim7.holds Tryd.pinned (.plain (OpenSpec.upto fnExactPeriodOfSpec)) fnExactPeriodOfUptoCard

/-- THE SECOND FORM's CARD OF 'laws.FnExactHeightsOf'. -/
def fnExactHeightsOfUptoCard : Claim7 := { stood := { row := fnExactHeightsOfUptoRow, standIns := [], harness := (true, "48e87dd0e66b1f1d63a68d6263d82a673a3c694b9ef8f284a9ef969c6eb25d12"), looks := false }, kinds := [], alts := [], laidByText := true, laidKinds := [.data, .pinned], laidTests := true, laidLooks := .later }
def FnExactHeightsOfUptoCardSaid : Prop := Claim7.holds Tryd.pinned (.plain (OpenSpec.upto fnExactHeightsOfSpec)) fnExactHeightsOfUptoCard

/-- THE SECOND FORM's CARD OF 'laws.FnExactIsBalanced'. -/
def fnExactIsBalancedUptoCard : Claim7 := { stood := { row := fnExactIsBalancedUptoRow, standIns := [], harness := (true, "48e87dd0e66b1f1d63a68d6263d82a673a3c694b9ef8f284a9ef969c6eb25d12"), looks := false }, kinds := [], alts := [], laidByText := true, laidKinds := [.data, .pinned], laidTests := true, laidLooks := .later }
def FnExactIsBalancedUptoCardSaid : Prop := Claim7.holds Tryd.pinned (.plain (OpenSpec.upto fnExactIsBalancedSpec)) fnExactIsBalancedUptoCard

/-- THE SECOND FORM's CARD OF 'laws.FnExactSlopesOf'. -/
def fnExactSlopesOfUptoCard : Claim7 := { stood := { row := fnExactSlopesOfUptoRow, standIns := [], harness := (true, "48e87dd0e66b1f1d63a68d6263d82a673a3c694b9ef8f284a9ef969c6eb25d12"), looks := false }, kinds := [], alts := [], laidByText := true, laidKinds := [.data, .pinned], laidTests := true, laidLooks := .later }
def FnExactSlopesOfUptoCardSaid : Prop := Claim7.holds Tryd.pinned (.plain (OpenSpec.upto fnExactSlopesOfSpec)) fnExactSlopesOfUptoCard

/-- THE SECOND FORM's CARD OF 'laws.FnExactLineFor'. -/
def fnExactLineForUptoCard : Claim7 := { stood := { row := fnExactLineForUptoRow, standIns := [], harness := (true, "48e87dd0e66b1f1d63a68d6263d82a673a3c694b9ef8f284a9ef969c6eb25d12"), looks := false }, kinds := [], alts := [], laidByText := true, laidKinds := [.data, .pinned], laidTests := true, laidLooks := .later }
def FnExactLineForUptoCardSaid : Prop := Claim7.holds Tryd.pinned (.plain (OpenSpec.upto fnExactLineForSpec)) fnExactLineForUptoCard

/-- THE SECOND FORM's CARD OF 'laws.FnBalanced'. -/
def fnBalancedUptoCard : Claim7 := { stood := { row := fnBalancedUptoRow, standIns := [], harness := (true, "48e87dd0e66b1f1d63a68d6263d82a673a3c694b9ef8f284a9ef969c6eb25d12"), looks := false }, kinds := [], alts := [], laidByText := true, laidKinds := [.data, .pinned], laidTests := true, laidLooks := .later }
def FnBalancedUptoCardSaid : Prop := Claim7.holds Tryd.pinned (.plain (OpenSpec.upto fnBalancedSpec)) fnBalancedUptoCard

/-- THE SECOND FORM's CARD OF 'laws.FnLines'. -/
def fnLinesUptoCard : Claim7 := { stood := { row := fnLinesUptoRow, standIns := [], harness := (true, "48e87dd0e66b1f1d63a68d6263d82a673a3c694b9ef8f284a9ef969c6eb25d12"), looks := false }, kinds := [], alts := [], laidByText := true, laidKinds := [.data, .pinned], laidTests := true, laidLooks := .later }
def FnLinesUptoCardSaid : Prop := Claim7.holds Tryd.pinned (.plain (OpenSpec.upto fnLinesSpec)) fnLinesUptoCard
end Rows
end Go.Proofs.YtkmghekffehimaaDoor
