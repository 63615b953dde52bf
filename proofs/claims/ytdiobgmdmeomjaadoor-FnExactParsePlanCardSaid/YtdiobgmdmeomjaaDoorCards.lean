/-
  DERIVED. GIVEN WITH THE SEED: THE CARDS: each row of YtdiobgmdmeomjaaDoorRows.lean that lists a variable, with what it lists TIED to the program's text (the seventh form; the later family's looks); each row that meets fmt, with fmt's text TOLD by the authors' own Lean function (tested against real Go, not proved from fmt's source: count such statements apart). THE CARD IS WHAT COUNTS. Prove the row's statement (the work); the ties are given (YtdiobgmdmeomjaaDoorTie.lean); close each card by the builder's one call (the guide's Derived/Test/ToyasCard.lean, 'card_holds'). Laid BY PROGRAM, IN A SANDBOX (cutbox-door.mjs). By AI agents, Wed Nov 11 2026. No macro, syntax, notation, axiom, sorry.
-/
import Derived.Test.YtdiobgmdmeomjaaDoorRows
import GoSem.ClaimSeven
namespace Go.Proofs.YtdiobgmdmeomjaaDoor
namespace Rows

/-- THE TIED CARD OF 'laws.FnExactCountMixed'. -/
def fnExactCountMixedCard : Claim7 := { stood := { row := fnExactCountMixedRow, standIns := [], harness := (true, "8e71e3d5f2cb4657c194f26c6b8f397449068b3e324c91779d55846ba940dc10"), looks := true }, kinds := [], alts := [], laidByText := true, laidKinds := [.data, .data, .data], laidTests := true, laidLooks := .later }
def FnExactCountMixedCardSaid : Prop := Claim7.holds Tryd.pinned (.plain (OpenSpec.ofChange fnExactCountMixedSpec)) fnExactCountMixedCard

/-- THE TIED CARD OF 'laws.FnExactParsePlan'. -/
def fnExactParsePlanCard : Claim7 := { stood := { row := fnExactParsePlanRow, standIns := [], harness := (true, "8e71e3d5f2cb4657c194f26c6b8f397449068b3e324c91779d55846ba940dc10"), looks := true }, kinds := [], alts := [], laidByText := true, laidKinds := [.data, .data, .data, .data, .sentinel, .sentinel, .pinned], laidTests := true, laidLooks := .later }
def FnExactParsePlanCardSaid : Prop := Claim7.holds Tryd.pinned (.plain (OpenSpec.ofChange fnExactParsePlanSpec)) fnExactParsePlanCard

/-- THE SECOND FORM's CARD OF 'laws.FnExactCountMixed'. -/
def fnExactCountMixedUptoCard : Claim7 := { stood := { row := fnExactCountMixedUptoRow, standIns := [], harness := (true, "8e71e3d5f2cb4657c194f26c6b8f397449068b3e324c91779d55846ba940dc10"), looks := true }, kinds := [], alts := [], laidByText := true, laidKinds := [.data, .data, .data], laidTests := true, laidLooks := .later }
def FnExactCountMixedUptoCardSaid : Prop := Claim7.holds Tryd.pinned (.plain (OpenSpec.upto fnExactCountMixedSpec)) fnExactCountMixedUptoCard

/-- THE SECOND FORM's CARD OF 'laws.FnExactParsePlan'. -/
def fnExactParsePlanUptoCard : Claim7 := { stood := { row := fnExactParsePlanUptoRow, standIns := [], harness := (true, "8e71e3d5f2cb4657c194f26c6b8f397449068b3e324c91779d55846ba940dc10"), looks := true }, kinds := [], alts := [], laidByText := true, laidKinds := [.data, .data, .data, .data, .sentinel, .sentinel, .pinned], laidTests := true, laidLooks := .later }
def FnExactParsePlanUptoCardSaid : Prop := Claim7.holds Tryd.pinned (.plain (OpenSpec.upto fnExactParsePlanSpec)) fnExactParsePlanUptoCard
end Rows
end Go.Proofs.YtdiobgmdmeomjaaDoor
