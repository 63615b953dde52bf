/-
  DERIVED. GIVEN WITH THE SEED: THE CARDS: each row of YtffhhhkdnkdlgaaDoorRows.lean that lists a variable, with what it lists TIED to the program's text (the seventh form; the later family's looks); each row that meets fmt, with fmt's text TOLD by the authors' own Lean function (tested against real Go, not proved from fmt's source: count such statements apart). THE CARD IS WHAT COUNTS. Prove the row's statement (the work); the ties are given (YtffhhhkdnkdlgaaDoorTie.lean); close each card by the builder's one call (the guide's Derived/Test/ToyasCard.lean, 'card_holds'). Laid BY PROGRAM, IN A SANDBOX (cutbox-door.mjs). By AI agents, Wed Nov 11 2026. No macro, syntax, notation, axiom, sorry.
-/
import Derived.Test.YtffhhhkdnkdlgaaDoorRows
import GoSem.ClaimSeven
namespace Go.Proofs.YtffhhhkdnkdlgaaDoor
namespace Rows

/-- THE TIED CARD OF 'laws.FnRingAgain'. -/
def fnRingAgainCard : Claim7 := { stood := { row := fnRingAgainRow, standIns := [], harness := (true, "6e2d52ebbd98317457241699bf5a1a9cf7d7fc093c3eb6f27b8c83a758fcf04a"), looks := false }, kinds := [], alts := [], laidByText := true, laidKinds := [.data, .data, .data], laidTests := true, laidLooks := .later }
def FnRingAgainCardSaid : Prop := Claim7.holds Tryd.pinned (.plain (OpenSpec.ofChange fnRingAgainSpec)) fnRingAgainCard

/-- THE TIED CARD OF 'laws.FnExactPeriodOfRing'. -/
def fnExactPeriodOfRingCard : Claim7 := { stood := { row := fnExactPeriodOfRingRow, standIns := [], harness := (true, "6e2d52ebbd98317457241699bf5a1a9cf7d7fc093c3eb6f27b8c83a758fcf04a"), looks := false }, kinds := [], alts := [], laidByText := true, laidKinds := [.data, .data, .data], laidTests := true, laidLooks := .later }
def FnExactPeriodOfRingCardSaid : Prop := Claim7.holds Tryd.pinned (.plain (OpenSpec.ofChange fnExactPeriodOfRingSpec)) fnExactPeriodOfRingCard

/-- THE TIED CARD OF 'laws.FnExactRingAfter'. -/
def fnExactRingAfterCard : Claim7 := { stood := { row := fnExactRingAfterRow, standIns := [], harness := (true, "6e2d52ebbd98317457241699bf5a1a9cf7d7fc093c3eb6f27b8c83a758fcf04a"), looks := false }, kinds := [], alts := [], laidByText := true, laidKinds := [.data, .data, .data], laidTests := true, laidLooks := .later }
def FnExactRingAfterCardSaid : Prop := Claim7.holds Tryd.pinned (.plain (OpenSpec.ofChange fnExactRingAfterSpec)) fnExactRingAfterCard

/-- THE TIED CARD OF 'laws.FnExactComesToZero'. -/
def fnExactComesToZeroCard : Claim7 := { stood := { row := fnExactComesToZeroRow, standIns := [], harness := (true, "6e2d52ebbd98317457241699bf5a1a9cf7d7fc093c3eb6f27b8c83a758fcf04a"), looks := false }, kinds := [], alts := [], laidByText := true, laidKinds := [.data, .data, .data], laidTests := true, laidLooks := .later }
def FnExactComesToZeroCardSaid : Prop := Claim7.holds Tryd.pinned (.plain (OpenSpec.ofChange fnExactComesToZeroSpec)) fnExactComesToZeroCard

/-- THE TIED CARD OF 'laws.FnExactGreatestAtLast'. -/
def fnExactGreatestAtLastCard : Claim7 := { stood := { row := fnExactGreatestAtLastRow, standIns := [], harness := (true, "6e2d52ebbd98317457241699bf5a1a9cf7d7fc093c3eb6f27b8c83a758fcf04a"), looks := false }, kinds := [], alts := [], laidByText := true, laidKinds := [.data, .data, .data], laidTests := true, laidLooks := .later }
def FnExactGreatestAtLastCardSaid : Prop := Claim7.holds Tryd.pinned (.plain (OpenSpec.ofChange fnExactGreatestAtLastSpec)) fnExactGreatestAtLastCard

/-- THE TIED CARD OF 'laws.FnExactStepsToZero'. -/
def fnExactStepsToZeroCard : Claim7 := { stood := { row := fnExactStepsToZeroRow, standIns := [], harness := (true, "6e2d52ebbd98317457241699bf5a1a9cf7d7fc093c3eb6f27b8c83a758fcf04a"), looks := false }, kinds := [], alts := [], laidByText := true, laidKinds := [.data, .data, .data], laidTests := true, laidLooks := .later }
def FnExactStepsToZeroCardSaid : Prop := Claim7.holds Tryd.pinned (.plain (OpenSpec.ofChange fnExactStepsToZeroSpec)) fnExactStepsToZeroCard

/-- THE TIED CARD OF 'laws.FnExactSlowestToZero'. -/
def fnExactSlowestToZeroCard : Claim7 := { stood := { row := fnExactSlowestToZeroRow, standIns := [], harness := (true, "6e2d52ebbd98317457241699bf5a1a9cf7d7fc093c3eb6f27b8c83a758fcf04a"), looks := false }, kinds := [], alts := [], laidByText := true, laidKinds := [.data, .data, .data], laidTests := true, laidLooks := .later }
def FnExactSlowestToZeroCardSaid : Prop := Claim7.holds Tryd.pinned (.plain (OpenSpec.ofChange fnExactSlowestToZeroSpec)) fnExactSlowestToZeroCard

/-- THE TIED CARD OF 'laws.FnExactCycleOfRing'. -/
def fnExactCycleOfRingCard : Claim7 := { stood := { row := fnExactCycleOfRingRow, standIns := [], harness := (true, "6e2d52ebbd98317457241699bf5a1a9cf7d7fc093c3eb6f27b8c83a758fcf04a"), looks := false }, kinds := [], alts := [], laidByText := true, laidKinds := [.data, .data, .data], laidTests := true, laidLooks := .later }
def FnExactCycleOfRingCardSaid : Prop := Claim7.holds Tryd.pinned (.plain (OpenSpec.ofChange fnExactCycleOfRingSpec)) fnExactCycleOfRingCard

/-- THE SECOND FORM's CARD OF 'laws.FnRingAgain'. -/
def fnRingAgainUptoCard : Claim7 := { stood := { row := fnRingAgainUptoRow, standIns := [], harness := (true, "6e2d52ebbd98317457241699bf5a1a9cf7d7fc093c3eb6f27b8c83a758fcf04a"), looks := false }, kinds := [], alts := [], laidByText := true, laidKinds := [.data, .data, .data], laidTests := true, laidLooks := .later }
def FnRingAgainUptoCardSaid : Prop := Claim7.holds Tryd.pinned (.plain (OpenSpec.upto fnRingAgainSpec)) fnRingAgainUptoCard

/-- THE SECOND FORM's CARD OF 'laws.FnExactPeriodOfRing'. -/
def fnExactPeriodOfRingUptoCard : Claim7 := { stood := { row := fnExactPeriodOfRingUptoRow, standIns := [], harness := (true, "6e2d52ebbd98317457241699bf5a1a9cf7d7fc093c3eb6f27b8c83a758fcf04a"), looks := false }, kinds := [], alts := [], laidByText := true, laidKinds := [.data, .data, .data], laidTests := true, laidLooks := .later }
def FnExactPeriodOfRingUptoCardSaid : Prop := Claim7.holds Tryd.pinned (.plain (OpenSpec.upto fnExactPeriodOfRingSpec)) fnExactPeriodOfRingUptoCard

/-- THE SECOND FORM's CARD OF 'laws.FnExactRingAfter'. -/
def fnExactRingAfterUptoCard : Claim7 := { stood := { row := fnExactRingAfterUptoRow, standIns := [], harness := (true, "6e2d52ebbd98317457241699bf5a1a9cf7d7fc093c3eb6f27b8c83a758fcf04a"), looks := false }, kinds := [], alts := [], laidByText := true, laidKinds := [.data, .data, .data], laidTests := true, laidLooks := .later }
def FnExactRingAfterUptoCardSaid : Prop := Claim7.holds Tryd.pinned (.plain (OpenSpec.upto fnExactRingAfterSpec)) fnExactRingAfterUptoCard

/-- THE SECOND FORM's CARD OF 'laws.FnExactComesToZero'. -/
def fnExactComesToZeroUptoCard : Claim7 := { stood := { row := fnExactComesToZeroUptoRow, standIns := [], harness := (true, "6e2d52ebbd98317457241699bf5a1a9cf7d7fc093c3eb6f27b8c83a758fcf04a"), looks := false }, kinds := [], alts := [], laidByText := true, laidKinds := [.data, .data, .data], laidTests := true, laidLooks := .later }
def FnExactComesToZeroUptoCardSaid : Prop := Claim7.holds Tryd.pinned (.plain (OpenSpec.upto fnExactComesToZeroSpec)) fnExactComesToZeroUptoCard

/-- THE SECOND FORM's CARD OF 'laws.FnExactGreatestAtLast'. -/
def fnExactGreatestAtLastUptoCard : Claim7 := { stood := { row := fnExactGreatestAtLastUptoRow, standIns := [], harness := (true, "6e2d52ebbd98317457241699bf5a1a9cf7d7fc093c3eb6f27b8c83a758fcf04a"), looks := false }, kinds := [], alts := [], laidByText := true, laidKinds := [.data, .data, .data], laidTests := true, laidLooks := .later }
def FnExactGreatestAtLastUptoCardSaid : Prop := Claim7.holds Tryd.pinned (.plain (OpenSpec.upto fnExactGreatestAtLastSpec)) fnExactGreatestAtLastUptoCard

/-- THE SECOND FORM's CARD OF 'laws.FnExactStepsToZero'. -/
def fnExactStepsToZeroUptoCard : Claim7 := { stood := { row := fnExactStepsToZeroUptoRow, standIns := [], harness := (true, "6e2d52ebbd98317457241699bf5a1a9cf7d7fc093c3eb6f27b8c83a758fcf04a"), looks := false }, kinds := [], alts := [], laidByText := true, laidKinds := [.data, .data, .data], laidTests := true, laidLooks := .later }
def FnExactStepsToZeroUptoCardSaid : Prop := Claim7.holds Tryd.pinned (.plain (OpenSpec.upto fnExactStepsToZeroSpec)) fnExactStepsToZeroUptoCard

/-- THE SECOND FORM's CARD OF 'laws.FnExactSlowestToZero'. -/
def fnExactSlowestToZeroUptoCard : Claim7 := { stood := { row := fnExactSlowestToZeroUptoRow, standIns := [], harness := (true, "6e2d52ebbd98317457241699bf5a1a9cf7d7fc093c3eb6f27b8c83a758fcf04a"), looks := false }, kinds := [], alts := [], laidByText := true, laidKinds := [.data, .data, .data], laidTests := true, laidLooks := .later }
def FnExactSlowestToZeroUptoCardSaid : Prop := Claim7.holds Tryd.pinned (.plain (OpenSpec.upto fnExactSlowestToZeroSpec)) fnExactSlowestToZeroUptoCard

/-- THE SECOND FORM's CARD OF 'laws.FnExactCycleOfRing'. -/
def fnExactCycleOfRingUptoCard : Claim7 := { stood := { row := fnExactCycleOfRingUptoRow, standIns := [], harness := (true, "6e2d52ebbd98317457241699bf5a1a9cf7d7fc093c3eb6f27b8c83a758fcf04a"), looks := false }, kinds := [], alts := [], laidByText := true, laidKinds := [.data, .data, .data], laidTests := true, laidLooks := .later }
def FnExactCycleOfRingUptoCardSaid : Prop := Claim7.holds Tryd.pinned (.plain (OpenSpec.upto fnExactCycleOfRingSpec)) fnExactCycleOfRingUptoCard
end Rows
end Go.Proofs.YtffhhhkdnkdlgaaDoor
