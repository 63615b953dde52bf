/-
  No cell of these rows narrows 'for every input' (looked for: loops, veiled, ifaces, maps, wideKeys, modest, calm, conditions, laid).
  DERIVED. THE GIVEN ROWS OF THIS SEAT. 12 by the template 'for every input the law returns true; each argument reads behind the call as it read before'; 0 by the template 'total and deterministic' (their statements: YtamfmfcibecckaaTotals.lean).
  GIVEN WITH THE SEED: the statements are not yours to turn. If you find one false, say at which input.
  Laid BY PROGRAM, IN A SANDBOX (cutbox-rows.mjs): the forced cells as the released guide's own fill.sh prints them over the translation 2512a0308a290f3b… (all of the seat's roots in one cut). By AI agents, Wed Nov 11 2026. No macro, syntax, notation, axiom, sorry.
-/
import Derived.Test.YtamfmfcibecckaaChecked
import GoSem.Claim
import GoSem.ClaimJoined
import GoSem.ClaimMapViews
import Derived.JoinedTies
import Derived.KernelRfl
namespace Go.Proofs.Ytamfmfcibecckaa
/- THE CELL 'sum', in the pinned program and in every row, IS THE sha256 OF THE DUMP (.gsa) THAT YtamfmfcibecckaaProg.lean LOADS. Nothing in Lean hashes anything: it is a label: what it is worth is what the hold of that sum in a sandbox is worth. -/
noncomputable def Try.pinned : Pinned := { name := "ytamfmfcibecckaa", sum := "2512a0308a290f3bd5e44d9403975d05f944c3d43fc2623b45c59de1258ea8ae", checked := Try.checked }
namespace Rows
def none {H : Type} : Left H := { results := [], args := [] }

/-- 'laws.FnExactEndBound': WHATEVER THE INPUT: true; the input reads as it did. -/
def fnExactEndBoundSpec : ChangeSpec := { name := "fnExactEndBound", fn := fun _ => fun
  | [d1, d2] => { results := [.lit (.bool true)], args := [d1, d2] }
  | _ => none }
def fnExactEndBoundRow : OpenClaim := { program := "ytamfmfcibecckaa", sum := "2512a0308a290f3bd5e44d9403975d05f944c3d43fc2623b45c59de1258ea8ae", func := "loop.example/g01333/laws.FnExactEndBound", spec := "fnExactEndBound", unfollowed := true, recurses := true, apart := false }
def FnExactEndBoundSaid : Prop := fnExactEndBoundRow.holds Try.pinned (OpenSpec.ofChange fnExactEndBoundSpec)

/-- ITS FALSE NEIGHBOUR: 'it returns false'. Refute it at one input. -/
def fnExactEndBoundWrong : ChangeSpec := { name := "fnExactEndBound", fn := fun _ => fun
  | [d1, d2] => { results := [.lit (.bool false)], args := [d1, d2] }
  | _ => none }
def FnExactEndBoundWrongFalsely : Prop := fnExactEndBoundRow.holds Try.pinned (OpenSpec.ofChange fnExactEndBoundWrong)

/-- 'laws.FnExactLoadsOf': WHATEVER THE INPUT: true; the input reads as it did. -/
def fnExactLoadsOfSpec : ChangeSpec := { name := "fnExactLoadsOf", fn := fun _ => fun
  | [d1, d2, d3] => { results := [.lit (.bool true)], args := [d1, d2, d3] }
  | _ => none }
def fnExactLoadsOfRow : OpenClaim := { program := "ytamfmfcibecckaa", sum := "2512a0308a290f3bd5e44d9403975d05f944c3d43fc2623b45c59de1258ea8ae", func := "loop.example/g01333/laws.FnExactLoadsOf", spec := "fnExactLoadsOf", unfollowed := true, recurses := true, apart := false }
def FnExactLoadsOfSaid : Prop := fnExactLoadsOfRow.holds Try.pinned (OpenSpec.ofChange fnExactLoadsOfSpec)

/-- ITS FALSE NEIGHBOUR: 'it returns false'. Refute it at one input. -/
def fnExactLoadsOfWrong : ChangeSpec := { name := "fnExactLoadsOf", fn := fun _ => fun
  | [d1, d2, d3] => { results := [.lit (.bool false)], args := [d1, d2, d3] }
  | _ => none }
def FnExactLoadsOfWrongFalsely : Prop := fnExactLoadsOfRow.holds Try.pinned (OpenSpec.ofChange fnExactLoadsOfWrong)

/-- 'laws.FnExactEndOfPlan': WHATEVER THE INPUT: true; the input reads as it did. -/
def fnExactEndOfPlanSpec : ChangeSpec := { name := "fnExactEndOfPlan", fn := fun _ => fun
  | [d1, d2, d3] => { results := [.lit (.bool true)], args := [d1, d2, d3] }
  | _ => none }
def fnExactEndOfPlanRow : OpenClaim := { program := "ytamfmfcibecckaa", sum := "2512a0308a290f3bd5e44d9403975d05f944c3d43fc2623b45c59de1258ea8ae", func := "loop.example/g01333/laws.FnExactEndOfPlan", spec := "fnExactEndOfPlan", unfollowed := true, recurses := true, apart := false }
def FnExactEndOfPlanSaid : Prop := fnExactEndOfPlanRow.holds Try.pinned (OpenSpec.ofChange fnExactEndOfPlanSpec)

/-- ITS FALSE NEIGHBOUR: 'it returns false'. Refute it at one input. -/
def fnExactEndOfPlanWrong : ChangeSpec := { name := "fnExactEndOfPlan", fn := fun _ => fun
  | [d1, d2, d3] => { results := [.lit (.bool false)], args := [d1, d2, d3] }
  | _ => none }
def FnExactEndOfPlanWrongFalsely : Prop := fnExactEndOfPlanRow.holds Try.pinned (OpenSpec.ofChange fnExactEndOfPlanWrong)

/-- 'laws.FnExactIdleOfPlan': WHATEVER THE INPUT: true; the input reads as it did. -/
def fnExactIdleOfPlanSpec : ChangeSpec := { name := "fnExactIdleOfPlan", fn := fun _ => fun
  | [d1, d2, d3] => { results := [.lit (.bool true)], args := [d1, d2, d3] }
  | _ => none }
def fnExactIdleOfPlanRow : OpenClaim := { program := "ytamfmfcibecckaa", sum := "2512a0308a290f3bd5e44d9403975d05f944c3d43fc2623b45c59de1258ea8ae", func := "loop.example/g01333/laws.FnExactIdleOfPlan", spec := "fnExactIdleOfPlan", unfollowed := true, recurses := true, apart := false }
def FnExactIdleOfPlanSaid : Prop := fnExactIdleOfPlanRow.holds Try.pinned (OpenSpec.ofChange fnExactIdleOfPlanSpec)

/-- ITS FALSE NEIGHBOUR: 'it returns false'. Refute it at one input. -/
def fnExactIdleOfPlanWrong : ChangeSpec := { name := "fnExactIdleOfPlan", fn := fun _ => fun
  | [d1, d2, d3] => { results := [.lit (.bool false)], args := [d1, d2, d3] }
  | _ => none }
def FnExactIdleOfPlanWrongFalsely : Prop := fnExactIdleOfPlanRow.holds Try.pinned (OpenSpec.ofChange fnExactIdleOfPlanWrong)

/-- 'laws.FnExactPlanInOrder': WHATEVER THE INPUT: true; the input reads as it did. -/
def fnExactPlanInOrderSpec : ChangeSpec := { name := "fnExactPlanInOrder", fn := fun _ => fun
  | [d1, d2] => { results := [.lit (.bool true)], args := [d1, d2] }
  | _ => none }
def fnExactPlanInOrderRow : OpenClaim := { program := "ytamfmfcibecckaa", sum := "2512a0308a290f3bd5e44d9403975d05f944c3d43fc2623b45c59de1258ea8ae", func := "loop.example/g01333/laws.FnExactPlanInOrder", spec := "fnExactPlanInOrder", unfollowed := true, recurses := true, apart := false }
def FnExactPlanInOrderSaid : Prop := fnExactPlanInOrderRow.holds Try.pinned (OpenSpec.ofChange fnExactPlanInOrderSpec)

/-- ITS FALSE NEIGHBOUR: 'it returns false'. Refute it at one input. -/
def fnExactPlanInOrderWrong : ChangeSpec := { name := "fnExactPlanInOrder", fn := fun _ => fun
  | [d1, d2] => { results := [.lit (.bool false)], args := [d1, d2] }
  | _ => none }
def FnExactPlanInOrderWrongFalsely : Prop := fnExactPlanInOrderRow.holds Try.pinned (OpenSpec.ofChange fnExactPlanInOrderWrong)

/-- 'laws.FnExactMachinesFor': WHATEVER THE INPUT: true; the input reads as it did. -/
def fnExactMachinesForSpec : ChangeSpec := { name := "fnExactMachinesFor", fn := fun _ => fun
  | [d1, d2] => { results := [.lit (.bool true)], args := [d1, d2] }
  | _ => none }
def fnExactMachinesForRow : OpenClaim := { program := "ytamfmfcibecckaa", sum := "2512a0308a290f3bd5e44d9403975d05f944c3d43fc2623b45c59de1258ea8ae", func := "loop.example/g01333/laws.FnExactMachinesFor", spec := "fnExactMachinesFor", unfollowed := true, recurses := true, apart := false }
def FnExactMachinesForSaid : Prop := fnExactMachinesForRow.holds Try.pinned (OpenSpec.ofChange fnExactMachinesForSpec)

/-- ITS FALSE NEIGHBOUR: 'it returns false'. Refute it at one input. -/
def fnExactMachinesForWrong : ChangeSpec := { name := "fnExactMachinesFor", fn := fun _ => fun
  | [d1, d2] => { results := [.lit (.bool false)], args := [d1, d2] }
  | _ => none }
def FnExactMachinesForWrongFalsely : Prop := fnExactMachinesForRow.holds Try.pinned (OpenSpec.ofChange fnExactMachinesForWrong)

/-- 'laws.FnExactIsSettledPlan': WHATEVER THE INPUT: true; the input reads as it did. -/
def fnExactIsSettledPlanSpec : ChangeSpec := { name := "fnExactIsSettledPlan", fn := fun _ => fun
  | [d1, d2, d3] => { results := [.lit (.bool true)], args := [d1, d2, d3] }
  | _ => none }
def fnExactIsSettledPlanRow : OpenClaim := { program := "ytamfmfcibecckaa", sum := "2512a0308a290f3bd5e44d9403975d05f944c3d43fc2623b45c59de1258ea8ae", func := "loop.example/g01333/laws.FnExactIsSettledPlan", spec := "fnExactIsSettledPlan", unfollowed := true, recurses := true, apart := false }
def FnExactIsSettledPlanSaid : Prop := fnExactIsSettledPlanRow.holds Try.pinned (OpenSpec.ofChange fnExactIsSettledPlanSpec)

/-- ITS FALSE NEIGHBOUR: 'it returns false'. Refute it at one input. -/
def fnExactIsSettledPlanWrong : ChangeSpec := { name := "fnExactIsSettledPlan", fn := fun _ => fun
  | [d1, d2, d3] => { results := [.lit (.bool false)], args := [d1, d2, d3] }
  | _ => none }
def FnExactIsSettledPlanWrongFalsely : Prop := fnExactIsSettledPlanRow.holds Try.pinned (OpenSpec.ofChange fnExactIsSettledPlanWrong)

/-- 'laws.FnExactBestMove': WHATEVER THE INPUT: true; the input reads as it did. -/
def fnExactBestMoveSpec : ChangeSpec := { name := "fnExactBestMove", fn := fun _ => fun
  | [d1, d2, d3] => { results := [.lit (.bool true)], args := [d1, d2, d3] }
  | _ => none }
def fnExactBestMoveRow : OpenClaim := { program := "ytamfmfcibecckaa", sum := "2512a0308a290f3bd5e44d9403975d05f944c3d43fc2623b45c59de1258ea8ae", func := "loop.example/g01333/laws.FnExactBestMove", spec := "fnExactBestMove", unfollowed := true, recurses := true, apart := false }
def FnExactBestMoveSaid : Prop := fnExactBestMoveRow.holds Try.pinned (OpenSpec.ofChange fnExactBestMoveSpec)

/-- ITS FALSE NEIGHBOUR: 'it returns false'. Refute it at one input. -/
def fnExactBestMoveWrong : ChangeSpec := { name := "fnExactBestMove", fn := fun _ => fun
  | [d1, d2, d3] => { results := [.lit (.bool false)], args := [d1, d2, d3] }
  | _ => none }
def FnExactBestMoveWrongFalsely : Prop := fnExactBestMoveRow.holds Try.pinned (OpenSpec.ofChange fnExactBestMoveWrong)

/-- 'laws.FnExactSettlePlan': WHATEVER THE INPUT: true; the input reads as it did. -/
def fnExactSettlePlanSpec : ChangeSpec := { name := "fnExactSettlePlan", fn := fun _ => fun
  | [d1, d2, d3] => { results := [.lit (.bool true)], args := [d1, d2, d3] }
  | _ => none }
def fnExactSettlePlanRow : OpenClaim := { program := "ytamfmfcibecckaa", sum := "2512a0308a290f3bd5e44d9403975d05f944c3d43fc2623b45c59de1258ea8ae", func := "loop.example/g01333/laws.FnExactSettlePlan", spec := "fnExactSettlePlan", unfollowed := true, recurses := true, apart := false }
def FnExactSettlePlanSaid : Prop := fnExactSettlePlanRow.holds Try.pinned (OpenSpec.ofChange fnExactSettlePlanSpec)

/-- ITS FALSE NEIGHBOUR: 'it returns false'. Refute it at one input. -/
def fnExactSettlePlanWrong : ChangeSpec := { name := "fnExactSettlePlan", fn := fun _ => fun
  | [d1, d2, d3] => { results := [.lit (.bool false)], args := [d1, d2, d3] }
  | _ => none }
def FnExactSettlePlanWrongFalsely : Prop := fnExactSettlePlanRow.holds Try.pinned (OpenSpec.ofChange fnExactSettlePlanWrong)

/-- 'laws.FnExactScaleRing': WHATEVER THE INPUT: true; the input reads as it did. -/
def fnExactScaleRingSpec : ChangeSpec := { name := "fnExactScaleRing", fn := fun _ => fun
  | [d1, d2] => { results := [.lit (.bool true)], args := [d1, d2] }
  | _ => none }
def fnExactScaleRingRow : OpenClaim := { program := "ytamfmfcibecckaa", sum := "2512a0308a290f3bd5e44d9403975d05f944c3d43fc2623b45c59de1258ea8ae", func := "loop.example/g01333/laws.FnExactScaleRing", spec := "fnExactScaleRing", unfollowed := true, recurses := true, apart := false }
def FnExactScaleRingSaid : Prop := fnExactScaleRingRow.holds Try.pinned (OpenSpec.ofChange fnExactScaleRingSpec)

/-- ITS FALSE NEIGHBOUR: 'it returns false'. Refute it at one input. -/
def fnExactScaleRingWrong : ChangeSpec := { name := "fnExactScaleRing", fn := fun _ => fun
  | [d1, d2] => { results := [.lit (.bool false)], args := [d1, d2] }
  | _ => none }
def FnExactScaleRingWrongFalsely : Prop := fnExactScaleRingRow.holds Try.pinned (OpenSpec.ofChange fnExactScaleRingWrong)

/-- 'laws.FnExactRingStep': WHATEVER THE INPUT: true; the input reads as it did. -/
def fnExactRingStepSpec : ChangeSpec := { name := "fnExactRingStep", fn := fun _ => fun
  | [d] => { results := [.lit (.bool true)], args := [d] }
  | _ => none }
def fnExactRingStepRow : OpenClaim := { program := "ytamfmfcibecckaa", sum := "2512a0308a290f3bd5e44d9403975d05f944c3d43fc2623b45c59de1258ea8ae", func := "loop.example/g01333/laws.FnExactRingStep", spec := "fnExactRingStep", unfollowed := true, recurses := true, apart := false }
def FnExactRingStepSaid : Prop := fnExactRingStepRow.holds Try.pinned (OpenSpec.ofChange fnExactRingStepSpec)

/-- ITS FALSE NEIGHBOUR: 'it returns false'. Refute it at one input. -/
def fnExactRingStepWrong : ChangeSpec := { name := "fnExactRingStep", fn := fun _ => fun
  | [d] => { results := [.lit (.bool false)], args := [d] }
  | _ => none }
def FnExactRingStepWrongFalsely : Prop := fnExactRingStepRow.holds Try.pinned (OpenSpec.ofChange fnExactRingStepWrong)

/-- 'laws.FnExactMirrorRing': WHATEVER THE INPUT: true; the input reads as it did. -/
def fnExactMirrorRingSpec : ChangeSpec := { name := "fnExactMirrorRing", fn := fun _ => fun
  | [d] => { results := [.lit (.bool true)], args := [d] }
  | _ => none }
def fnExactMirrorRingRow : OpenClaim := { program := "ytamfmfcibecckaa", sum := "2512a0308a290f3bd5e44d9403975d05f944c3d43fc2623b45c59de1258ea8ae", func := "loop.example/g01333/laws.FnExactMirrorRing", spec := "fnExactMirrorRing", unfollowed := true, recurses := true, apart := false }
def FnExactMirrorRingSaid : Prop := fnExactMirrorRingRow.holds Try.pinned (OpenSpec.ofChange fnExactMirrorRingSpec)

/-- ITS FALSE NEIGHBOUR: 'it returns false'. Refute it at one input. -/
def fnExactMirrorRingWrong : ChangeSpec := { name := "fnExactMirrorRing", fn := fun _ => fun
  | [d] => { results := [.lit (.bool false)], args := [d] }
  | _ => none }
def FnExactMirrorRingWrongFalsely : Prop := fnExactMirrorRingRow.holds Try.pinned (OpenSpec.ofChange fnExactMirrorRingWrong)

/- THE SECOND FORM. 'bulk': how many values and letters a reading holds, each counted each time it is reached (what is shared counts as often as it is met; a slice's spare places count too). A statement '..UptoSaid' is the law's where the arguments, and the package variables that the reading takes, are together of bulk at most 1048576: NARROWER than '..Said'. Prove '..Said' where nothing that the law and all that it calls make is longer than what came in: it says more and counts as full. Else prove '..UptoSaid'. A law counts once. -/
mutual
def uptoBulk {H : Type} : DataW H → Nat
  | .lit (.string bytes) => bytes.length + 1
  | .lit _ => 1
  | .nil => 1
  | .ptr d => uptoBulk d + 1
  | .slice elems spare => uptoBulkAll elems + uptoBulkAll spare + 1
  | .agg parts => uptoBulkAll parts + 1
  | .iface _ d => uptoBulk d + 1
  | .map entries => uptoBulkEntries entries + 1
  | .held _ => 1
def uptoBulkAll {H : Type} : List (DataW H) → Nat
  | [] => 0
  | d :: r => uptoBulk d + uptoBulkAll r
def uptoBulkEntries {H : Type} : List (Lit × DataW H) → Nat
  | [] => 0
  | x :: r => uptoBulkEntry x + uptoBulkEntries r
def uptoBulkEntry {H : Type} : Lit × DataW H → Nat
  | (.string bytes, d) => bytes.length + uptoBulk d + 1
  | (_, d) => uptoBulk d + 1
 end
def uptoSmall : (H : Type) → List (DataW H) → Bool := fun _ ds => decide (uptoBulkAll ds ≤ 1048576)
def OpenSpec.upto (s : _root_.Go.ChangeSpec) : _root_.Go.OpenSpec := { _root_.Go.OpenSpec.ofChange s with cond := some uptoSmall }

/-- 'laws.FnExactEndBound', WHERE WHAT IT READS IS OF BULK AT MOST 1048576: true; the input reads as it did. -/
def fnExactEndBoundUptoRow : OpenClaim := { program := "ytamfmfcibecckaa", sum := "2512a0308a290f3bd5e44d9403975d05f944c3d43fc2623b45c59de1258ea8ae", func := "loop.example/g01333/laws.FnExactEndBound", spec := "fnExactEndBound", unfollowed := true, recurses := true, apart := false, narrowed := true }
def FnExactEndBoundUptoSaid : Prop := fnExactEndBoundUptoRow.holds Try.pinned (OpenSpec.upto fnExactEndBoundSpec)

/-- 'laws.FnExactLoadsOf', WHERE WHAT IT READS IS OF BULK AT MOST 1048576: true; the input reads as it did. -/
def fnExactLoadsOfUptoRow : OpenClaim := { program := "ytamfmfcibecckaa", sum := "2512a0308a290f3bd5e44d9403975d05f944c3d43fc2623b45c59de1258ea8ae", func := "loop.example/g01333/laws.FnExactLoadsOf", spec := "fnExactLoadsOf", unfollowed := true, recurses := true, apart := false, narrowed := true }
def FnExactLoadsOfUptoSaid : Prop := fnExactLoadsOfUptoRow.holds Try.pinned (OpenSpec.upto fnExactLoadsOfSpec)

/-- 'laws.FnExactEndOfPlan', WHERE WHAT IT READS IS OF BULK AT MOST 1048576: true; the input reads as it did. -/
def fnExactEndOfPlanUptoRow : OpenClaim := { program := "ytamfmfcibecckaa", sum := "2512a0308a290f3bd5e44d9403975d05f944c3d43fc2623b45c59de1258ea8ae", func := "loop.example/g01333/laws.FnExactEndOfPlan", spec := "fnExactEndOfPlan", unfollowed := true, recurses := true, apart := false, narrowed := true }
def FnExactEndOfPlanUptoSaid : Prop := fnExactEndOfPlanUptoRow.holds Try.pinned (OpenSpec.upto fnExactEndOfPlanSpec)

/-- 'laws.FnExactIdleOfPlan', WHERE WHAT IT READS IS OF BULK AT MOST 1048576: true; the input reads as it did. -/
def fnExactIdleOfPlanUptoRow : OpenClaim := { program := "ytamfmfcibecckaa", sum := "2512a0308a290f3bd5e44d9403975d05f944c3d43fc2623b45c59de1258ea8ae", func := "loop.example/g01333/laws.FnExactIdleOfPlan", spec := "fnExactIdleOfPlan", unfollowed := true, recurses := true, apart := false, narrowed := true }
def FnExactIdleOfPlanUptoSaid : Prop := fnExactIdleOfPlanUptoRow.holds Try.pinned (OpenSpec.upto fnExactIdleOfPlanSpec)

/-- 'laws.FnExactPlanInOrder', WHERE WHAT IT READS IS OF BULK AT MOST 1048576: true; the input reads as it did. -/
def fnExactPlanInOrderUptoRow : OpenClaim := { program := "ytamfmfcibecckaa", sum := "2512a0308a290f3bd5e44d9403975d05f944c3d43fc2623b45c59de1258ea8ae", func := "loop.example/g01333/laws.FnExactPlanInOrder", spec := "fnExactPlanInOrder", unfollowed := true, recurses := true, apart := false, narrowed := true }
def FnExactPlanInOrderUptoSaid : Prop := fnExactPlanInOrderUptoRow.holds Try.pinned (OpenSpec.upto fnExactPlanInOrderSpec)

/-- 'laws.FnExactMachinesFor', WHERE WHAT IT READS IS OF BULK AT MOST 1048576: true; the input reads as it did. -/
def fnExactMachinesForUptoRow : OpenClaim := { program := "ytamfmfcibecckaa", sum := "2512a0308a290f3bd5e44d9403975d05f944c3d43fc2623b45c59de1258ea8ae", func := "loop.example/g01333/laws.FnExactMachinesFor", spec := "fnExactMachinesFor", unfollowed := true, recurses := true, apart := false, narrowed := true }
def FnExactMachinesForUptoSaid : Prop := fnExactMachinesForUptoRow.holds Try.pinned (OpenSpec.upto fnExactMachinesForSpec)

/-- 'laws.FnExactIsSettledPlan', WHERE WHAT IT READS IS OF BULK AT MOST 1048576: true; the input reads as it did. -/
def fnExactIsSettledPlanUptoRow : OpenClaim := { program := "ytamfmfcibecckaa", sum := "2512a0308a290f3bd5e44d9403975d05f944c3d43fc2623b45c59de1258ea8ae", func := "loop.example/g01333/laws.FnExactIsSettledPlan", spec := "fnExactIsSettledPlan", unfollowed := true, recurses := true, apart := false, narrowed := true }
def FnExactIsSettledPlanUptoSaid : Prop := fnExactIsSettledPlanUptoRow.holds Try.pinned (OpenSpec.upto fnExactIsSettledPlanSpec)

/-- 'laws.FnExactBestMove', WHERE WHAT IT READS IS OF BULK AT MOST 1048576: true; the input reads as it did. -/
def fnExactBestMoveUptoRow : OpenClaim := { program := "ytamfmfcibecckaa", sum := "2512a0308a290f3bd5e44d9403975d05f944c3d43fc2623b45c59de1258ea8ae", func := "loop.example/g01333/laws.FnExactBestMove", spec := "fnExactBestMove", unfollowed := true, recurses := true, apart := false, narrowed := true }
def FnExactBestMoveUptoSaid : Prop := fnExactBestMoveUptoRow.holds Try.pinned (OpenSpec.upto fnExactBestMoveSpec)

/-- 'laws.FnExactSettlePlan', WHERE WHAT IT READS IS OF BULK AT MOST 1048576: true; the input reads as it did. -/
def fnExactSettlePlanUptoRow : OpenClaim := { program := "ytamfmfcibecckaa", sum := "2512a0308a290f3bd5e44d9403975d05f944c3d43fc2623b45c59de1258ea8ae", func := "loop.example/g01333/laws.FnExactSettlePlan", spec := "fnExactSettlePlan", unfollowed := true, recurses := true, apart := false, narrowed := true }
def FnExactSettlePlanUptoSaid : Prop := fnExactSettlePlanUptoRow.holds Try.pinned (OpenSpec.upto fnExactSettlePlanSpec)

/-- 'laws.FnExactScaleRing', WHERE WHAT IT READS IS OF BULK AT MOST 1048576: true; the input reads as it did. -/
def fnExactScaleRingUptoRow : OpenClaim := { program := "ytamfmfcibecckaa", sum := "2512a0308a290f3bd5e44d9403975d05f944c3d43fc2623b45c59de1258ea8ae", func := "loop.example/g01333/laws.FnExactScaleRing", spec := "fnExactScaleRing", unfollowed := true, recurses := true, apart := false, narrowed := true }
def FnExactScaleRingUptoSaid : Prop := fnExactScaleRingUptoRow.holds Try.pinned (OpenSpec.upto fnExactScaleRingSpec)

/-- 'laws.FnExactRingStep', WHERE WHAT IT READS IS OF BULK AT MOST 1048576: true; the input reads as it did. -/
def fnExactRingStepUptoRow : OpenClaim := { program := "ytamfmfcibecckaa", sum := "2512a0308a290f3bd5e44d9403975d05f944c3d43fc2623b45c59de1258ea8ae", func := "loop.example/g01333/laws.FnExactRingStep", spec := "fnExactRingStep", unfollowed := true, recurses := true, apart := false, narrowed := true }
def FnExactRingStepUptoSaid : Prop := fnExactRingStepUptoRow.holds Try.pinned (OpenSpec.upto fnExactRingStepSpec)

/-- 'laws.FnExactMirrorRing', WHERE WHAT IT READS IS OF BULK AT MOST 1048576: true; the input reads as it did. -/
def fnExactMirrorRingUptoRow : OpenClaim := { program := "ytamfmfcibecckaa", sum := "2512a0308a290f3bd5e44d9403975d05f944c3d43fc2623b45c59de1258ea8ae", func := "loop.example/g01333/laws.FnExactMirrorRing", spec := "fnExactMirrorRing", unfollowed := true, recurses := true, apart := false, narrowed := true }
def FnExactMirrorRingUptoSaid : Prop := fnExactMirrorRingUptoRow.holds Try.pinned (OpenSpec.upto fnExactMirrorRingSpec)

end Rows
end Go.Proofs.Ytamfmfcibecckaa
