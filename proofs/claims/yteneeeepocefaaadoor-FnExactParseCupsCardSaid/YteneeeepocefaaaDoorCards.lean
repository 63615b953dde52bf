/-
  DERIVED. GIVEN WITH THE SEED: THE CARDS: each row of YteneeeepocefaaaDoorRows.lean that lists a variable, with what it lists TIED to the program's text (the seventh form; the later family's looks); each row that meets fmt, with fmt's text TOLD by the authors' own Lean function (tested against real Go, not proved from fmt's source: count such statements apart). THE CARD IS WHAT COUNTS. Prove the row's statement (the work); the ties are given (YteneeeepocefaaaDoorTie.lean); close each card by the builder's one call (the guide's Derived/Test/ToyasCard.lean, 'card_holds'). Laid BY PROGRAM, IN A SANDBOX (cutbox-door.mjs). By AI agents, Wed Nov 11 2026. No macro, syntax, notation, axiom, sorry.
-/
import Derived.Test.YteneeeepocefaaaDoorRows
import GoSem.ClaimSeven
namespace Go.Proofs.YteneeeepocefaaaDoor
namespace Rows

/-- THE TIED CARD OF 'laws.FnExactParseCups'. -/
def fnExactParseCupsCard : Claim7 := { stood := { row := fnExactParseCupsRow, standIns := [], harness := (true, "c90afeb03493d15ede0cdbb1796fee5464e240664684e3b73bf7f7719c769215"), looks := true }, kinds := [], alts := [], laidByText := true, laidKinds := [.data, .data, .data, .data, .sentinel, .sentinel, .pinned], laidTests := true, laidLooks := .later }
def FnExactParseCupsCardSaid : Prop := Claim7.holds Tryd.pinned (.plain (OpenSpec.ofChange fnExactParseCupsSpec)) fnExactParseCupsCard

/-- THE TIED CARD OF 'laws.FnExactPlanText'. -/
def fnExactPlanTextCard : Claim7 := { stood := { row := fnExactPlanTextRow, standIns := [], harness := (true, "c90afeb03493d15ede0cdbb1796fee5464e240664684e3b73bf7f7719c769215"), looks := true }, kinds := [], alts := [], laidByText := true, laidKinds := [.data, .data, .data], laidTests := true, laidLooks := .later }
def FnExactPlanTextCardSaid : Prop := Claim7.holds Tryd.pinned (.plain (OpenSpec.ofChange fnExactPlanTextSpec)) fnExactPlanTextCard

/-- THE TIED CARD OF 'laws.FnExactCupsText'. -/
def fnExactCupsTextCard : Claim7 := { stood := { row := fnExactCupsTextRow, standIns := [], harness := (true, "c90afeb03493d15ede0cdbb1796fee5464e240664684e3b73bf7f7719c769215"), looks := true }, kinds := [], alts := [], laidByText := true, laidKinds := [.data, .data, .data], laidTests := true, laidLooks := .later }
def FnExactCupsTextCardSaid : Prop := Claim7.holds Tryd.pinned (.plain (OpenSpec.ofChange fnExactCupsTextSpec)) fnExactCupsTextCard

/-- THE TIED CARD OF 'laws.FnExactLongestPeriod'. -/
def fnExactLongestPeriodCard : Claim7 := { stood := { row := fnExactLongestPeriodRow, standIns := [], harness := (true, "c90afeb03493d15ede0cdbb1796fee5464e240664684e3b73bf7f7719c769215"), looks := true }, kinds := [], alts := [], laidByText := true, laidKinds := [.data, .data, .data], laidTests := true, laidLooks := .later }
def FnExactLongestPeriodCardSaid : Prop := Claim7.holds Tryd.pinned (.plain (OpenSpec.ofChange fnExactLongestPeriodSpec)) fnExactLongestPeriodCard

/-- THE TIED CARD OF 'laws.FnExactCountCycling'. -/
def fnExactCountCyclingCard : Claim7 := { stood := { row := fnExactCountCyclingRow, standIns := [], harness := (true, "c90afeb03493d15ede0cdbb1796fee5464e240664684e3b73bf7f7719c769215"), looks := true }, kinds := [], alts := [], laidByText := true, laidKinds := [.data, .data, .data], laidTests := true, laidLooks := .later }
def FnExactCountCyclingCardSaid : Prop := Claim7.holds Tryd.pinned (.plain (OpenSpec.ofChange fnExactCountCyclingSpec)) fnExactCountCyclingCard

/-- THE TIED CARD OF 'laws.FnExactLeadOfRing'. -/
def fnExactLeadOfRingCard : Claim7 := { stood := { row := fnExactLeadOfRingRow, standIns := [], harness := (true, "c90afeb03493d15ede0cdbb1796fee5464e240664684e3b73bf7f7719c769215"), looks := true }, kinds := [], alts := [], laidByText := true, laidKinds := [.data, .data, .data], laidTests := true, laidLooks := .later }
def FnExactLeadOfRingCardSaid : Prop := Claim7.holds Tryd.pinned (.plain (OpenSpec.ofChange fnExactLeadOfRingSpec)) fnExactLeadOfRingCard

/-- THE SECOND FORM's CARD OF 'laws.FnExactParseCups'. -/
def fnExactParseCupsUptoCard : Claim7 := { stood := { row := fnExactParseCupsUptoRow, standIns := [], harness := (true, "c90afeb03493d15ede0cdbb1796fee5464e240664684e3b73bf7f7719c769215"), looks := true }, kinds := [], alts := [], laidByText := true, laidKinds := [.data, .data, .data, .data, .sentinel, .sentinel, .pinned], laidTests := true, laidLooks := .later }
def FnExactParseCupsUptoCardSaid : Prop := Claim7.holds Tryd.pinned (.plain (OpenSpec.upto fnExactParseCupsSpec)) fnExactParseCupsUptoCard

/-- THE SECOND FORM's CARD OF 'laws.FnExactPlanText'. -/
def fnExactPlanTextUptoCard : Claim7 := { stood := { row := fnExactPlanTextUptoRow, standIns := [], harness := (true, "c90afeb03493d15ede0cdbb1796fee5464e240664684e3b73bf7f7719c769215"), looks := true }, kinds := [], alts := [], laidByText := true, laidKinds := [.data, .data, .data], laidTests := true, laidLooks := .later }
def FnExactPlanTextUptoCardSaid : Prop := Claim7.holds Tryd.pinned (.plain (OpenSpec.upto fnExactPlanTextSpec)) fnExactPlanTextUptoCard

/-- THE SECOND FORM's CARD OF 'laws.FnExactCupsText'. -/
def fnExactCupsTextUptoCard : Claim7 := { stood := { row := fnExactCupsTextUptoRow, standIns := [], harness := (true, "c90afeb03493d15ede0cdbb1796fee5464e240664684e3b73bf7f7719c769215"), looks := true }, kinds := [], alts := [], laidByText := true, laidKinds := [.data, .data, .data], laidTests := true, laidLooks := .later }
def FnExactCupsTextUptoCardSaid : Prop := Claim7.holds Tryd.pinned (.plain (OpenSpec.upto fnExactCupsTextSpec)) fnExactCupsTextUptoCard

/-- THE SECOND FORM's CARD OF 'laws.FnExactLongestPeriod'. -/
def fnExactLongestPeriodUptoCard : Claim7 := { stood := { row := fnExactLongestPeriodUptoRow, standIns := [], harness := (true, "c90afeb03493d15ede0cdbb1796fee5464e240664684e3b73bf7f7719c769215"), looks := true }, kinds := [], alts := [], laidByText := true, laidKinds := [.data, .data, .data], laidTests := true, laidLooks := .later }
def FnExactLongestPeriodUptoCardSaid : Prop := Claim7.holds Tryd.pinned (.plain (OpenSpec.upto fnExactLongestPeriodSpec)) fnExactLongestPeriodUptoCard

/-- THE SECOND FORM's CARD OF 'laws.FnExactCountCycling'. -/
def fnExactCountCyclingUptoCard : Claim7 := { stood := { row := fnExactCountCyclingUptoRow, standIns := [], harness := (true, "c90afeb03493d15ede0cdbb1796fee5464e240664684e3b73bf7f7719c769215"), looks := true }, kinds := [], alts := [], laidByText := true, laidKinds := [.data, .data, .data], laidTests := true, laidLooks := .later }
def FnExactCountCyclingUptoCardSaid : Prop := Claim7.holds Tryd.pinned (.plain (OpenSpec.upto fnExactCountCyclingSpec)) fnExactCountCyclingUptoCard

/-- THE SECOND FORM's CARD OF 'laws.FnExactLeadOfRing'. -/
def fnExactLeadOfRingUptoCard : Claim7 := { stood := { row := fnExactLeadOfRingUptoRow, standIns := [], harness := (true, "c90afeb03493d15ede0cdbb1796fee5464e240664684e3b73bf7f7719c769215"), looks := true }, kinds := [], alts := [], laidByText := true, laidKinds := [.data, .data, .data], laidTests := true, laidLooks := .later }
def FnExactLeadOfRingUptoCardSaid : Prop := Claim7.holds Tryd.pinned (.plain (OpenSpec.upto fnExactLeadOfRingSpec)) fnExactLeadOfRingUptoCard
end Rows
end Go.Proofs.YteneeeepocefaaaDoor
