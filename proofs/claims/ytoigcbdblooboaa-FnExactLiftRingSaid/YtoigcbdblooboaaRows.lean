/-
  No cell of these rows narrows 'for every input' (looked for: loops, veiled, ifaces, maps, wideKeys, modest, calm, conditions, laid).
  DERIVED. THE GIVEN ROWS OF THIS SEAT. 5 by the template 'for every input the law returns true; each argument reads behind the call as it read before'; 0 by the template 'total and deterministic' (their statements: YtoigcbdblooboaaTotals.lean).
  GIVEN WITH THE SEED: the statements are not yours to turn. If you find one false, say at which input.
  Laid BY PROGRAM, IN A SANDBOX (cutbox-rows.mjs): the forced cells as the released guide's own fill.sh prints them over the translation 08a83b8a1fa6d234… (all of the seat's roots in one cut). By AI agents, Wed Nov 11 2026. No macro, syntax, notation, axiom, sorry.
-/
import Derived.Test.YtoigcbdblooboaaChecked
import GoSem.Claim
import GoSem.ClaimJoined
import GoSem.ClaimMapViews
import Derived.JoinedTies
import Derived.KernelRfl
namespace Go.Proofs.Ytoigcbdblooboaa
/- THE CELL 'sum', in the pinned program and in every row, IS THE sha256 OF THE DUMP (.gsa) THAT YtoigcbdblooboaaProg.lean LOADS. Nothing in Lean hashes anything: it is a label: what it is worth is what the hold of that sum in a sandbox is worth. -/
noncomputable def Try.pinned : Pinned := { name := "ytoigcbdblooboaa", sum := "08a83b8a1fa6d234211edcbd792afd90b3045cb4270ae22c24ed37e186469486", checked := Try.checked }
namespace Rows
def none {H : Type} : Left H := { results := [], args := [] }

/-- 'laws.FnExactAreJobs': WHATEVER THE INPUT: true; the input reads as it did. -/
def fnExactAreJobsSpec : ChangeSpec := { name := "fnExactAreJobs", fn := fun _ => fun
  | [d] => { results := [.lit (.bool true)], args := [d] }
  | _ => none }
def fnExactAreJobsRow : OpenClaim := { program := "ytoigcbdblooboaa", sum := "08a83b8a1fa6d234211edcbd792afd90b3045cb4270ae22c24ed37e186469486", func := "loop.example/g01333/laws.FnExactAreJobs", spec := "fnExactAreJobs", unfollowed := true, recurses := true, apart := false }
def FnExactAreJobsSaid : Prop := fnExactAreJobsRow.holds Try.pinned (OpenSpec.ofChange fnExactAreJobsSpec)

/-- ITS FALSE NEIGHBOUR: 'it returns false'. Refute it at one input. -/
def fnExactAreJobsWrong : ChangeSpec := { name := "fnExactAreJobs", fn := fun _ => fun
  | [d] => { results := [.lit (.bool false)], args := [d] }
  | _ => none }
def FnExactAreJobsWrongFalsely : Prop := fnExactAreJobsRow.holds Try.pinned (OpenSpec.ofChange fnExactAreJobsWrong)

/-- 'laws.FnExactIsRing': WHATEVER THE INPUT: true; the input reads as it did. -/
def fnExactIsRingSpec : ChangeSpec := { name := "fnExactIsRing", fn := fun _ => fun
  | [d] => { results := [.lit (.bool true)], args := [d] }
  | _ => none }
def fnExactIsRingRow : OpenClaim := { program := "ytoigcbdblooboaa", sum := "08a83b8a1fa6d234211edcbd792afd90b3045cb4270ae22c24ed37e186469486", func := "loop.example/g01333/laws.FnExactIsRing", spec := "fnExactIsRing", unfollowed := true, recurses := true, apart := false }
def FnExactIsRingSaid : Prop := fnExactIsRingRow.holds Try.pinned (OpenSpec.ofChange fnExactIsRingSpec)

/-- ITS FALSE NEIGHBOUR: 'it returns false'. Refute it at one input. -/
def fnExactIsRingWrong : ChangeSpec := { name := "fnExactIsRing", fn := fun _ => fun
  | [d] => { results := [.lit (.bool false)], args := [d] }
  | _ => none }
def FnExactIsRingWrongFalsely : Prop := fnExactIsRingRow.holds Try.pinned (OpenSpec.ofChange fnExactIsRingWrong)

/-- 'laws.FnExactIsLoadPlan': WHATEVER THE INPUT: true; the input reads as it did. -/
def fnExactIsLoadPlanSpec : ChangeSpec := { name := "fnExactIsLoadPlan", fn := fun _ => fun
  | [d1, d2, d3] => { results := [.lit (.bool true)], args := [d1, d2, d3] }
  | _ => none }
def fnExactIsLoadPlanRow : OpenClaim := { program := "ytoigcbdblooboaa", sum := "08a83b8a1fa6d234211edcbd792afd90b3045cb4270ae22c24ed37e186469486", func := "loop.example/g01333/laws.FnExactIsLoadPlan", spec := "fnExactIsLoadPlan", unfollowed := true, recurses := true, apart := false }
def FnExactIsLoadPlanSaid : Prop := fnExactIsLoadPlanRow.holds Try.pinned (OpenSpec.ofChange fnExactIsLoadPlanSpec)

/-- ITS FALSE NEIGHBOUR: 'it returns false'. Refute it at one input. -/
def fnExactIsLoadPlanWrong : ChangeSpec := { name := "fnExactIsLoadPlan", fn := fun _ => fun
  | [d1, d2, d3] => { results := [.lit (.bool false)], args := [d1, d2, d3] }
  | _ => none }
def FnExactIsLoadPlanWrongFalsely : Prop := fnExactIsLoadPlanRow.holds Try.pinned (OpenSpec.ofChange fnExactIsLoadPlanWrong)

/-- 'laws.FnExactTurnRing': WHATEVER THE INPUT: true; the input reads as it did. -/
def fnExactTurnRingSpec : ChangeSpec := { name := "fnExactTurnRing", fn := fun _ => fun
  | [d1, d2] => { results := [.lit (.bool true)], args := [d1, d2] }
  | _ => none }
def fnExactTurnRingRow : OpenClaim := { program := "ytoigcbdblooboaa", sum := "08a83b8a1fa6d234211edcbd792afd90b3045cb4270ae22c24ed37e186469486", func := "loop.example/g01333/laws.FnExactTurnRing", spec := "fnExactTurnRing", unfollowed := true, recurses := true, apart := false }
def FnExactTurnRingSaid : Prop := fnExactTurnRingRow.holds Try.pinned (OpenSpec.ofChange fnExactTurnRingSpec)

/-- ITS FALSE NEIGHBOUR: 'it returns false'. Refute it at one input. -/
def fnExactTurnRingWrong : ChangeSpec := { name := "fnExactTurnRing", fn := fun _ => fun
  | [d1, d2] => { results := [.lit (.bool false)], args := [d1, d2] }
  | _ => none }
def FnExactTurnRingWrongFalsely : Prop := fnExactTurnRingRow.holds Try.pinned (OpenSpec.ofChange fnExactTurnRingWrong)

/-- 'laws.FnExactLiftRing': WHATEVER THE INPUT: true; the input reads as it did. -/
def fnExactLiftRingSpec : ChangeSpec := { name := "fnExactLiftRing", fn := fun _ => fun
  | [d1, d2] => { results := [.lit (.bool true)], args := [d1, d2] }
  | _ => none }
def fnExactLiftRingRow : OpenClaim := { program := "ytoigcbdblooboaa", sum := "08a83b8a1fa6d234211edcbd792afd90b3045cb4270ae22c24ed37e186469486", func := "loop.example/g01333/laws.FnExactLiftRing", spec := "fnExactLiftRing", unfollowed := true, recurses := true, apart := false }
def FnExactLiftRingSaid : Prop := fnExactLiftRingRow.holds Try.pinned (OpenSpec.ofChange fnExactLiftRingSpec)

/-- ITS FALSE NEIGHBOUR: 'it returns false'. Refute it at one input. -/
def fnExactLiftRingWrong : ChangeSpec := { name := "fnExactLiftRing", fn := fun _ => fun
  | [d1, d2] => { results := [.lit (.bool false)], args := [d1, d2] }
  | _ => none }
def FnExactLiftRingWrongFalsely : Prop := fnExactLiftRingRow.holds Try.pinned (OpenSpec.ofChange fnExactLiftRingWrong)

/- THE SECOND FORM. 'bulk': how many values and letters a reading holds, each counted each time it is reached (what is shared counts as often as it is met; a slice's spare places count too). A statement '..UptoSaid' is the law's where the arguments, and the package variables that the reading takes, are together of bulk at most 1048576: NARROWER than '..Said'. Prove '..Said' where nothing that the law and all that it calls make is longer than what came in: it says more and counts as full. Else prove '..UptoSaid'. A law counts once. -/
mutual
def uptoBulk {H : Type} : DataW H → Nat
  | .lit (.string bytes) => bytes.length + 1
  | .lit _ => 1
  | .nil => 1
  | .ptr d => uptoBulk d + 1
  | .slice elems spare => uptoBulkAll elems + uptoBulkAll spare + 1
  | .agg parts => uptoBulkAll parts + 1
  | .iface _ d => uptoBulk d + 1
  | .map entries => uptoBulkEntries entries + 1
  | .held _ => 1
def uptoBulkAll {H : Type} : List (DataW H) → Nat
  | [] => 0
  | d :: r => uptoBulk d + uptoBulkAll r
def uptoBulkEntries {H : Type} : List (Lit × DataW H) → Nat
  | [] => 0
  | x :: r => uptoBulkEntry x + uptoBulkEntries r
def uptoBulkEntry {H : Type} : Lit × DataW H → Nat
  | (.string bytes, d) => bytes.length + uptoBulk d + 1
  | (_, d) => uptoBulk d + 1
 end
def uptoSmall : (H : Type) → List (DataW H) → Bool := fun _ ds => decide (uptoBulkAll ds ≤ 1048576)
def OpenSpec.upto (s : _root_.Go.ChangeSpec) : _root_.Go.OpenSpec := { _root_.Go.OpenSpec.ofChange s with cond := some uptoSmall }

/-- 'laws.FnExactAreJobs', WHERE WHAT IT READS IS OF BULK AT MOST 1048576: true; the input reads as it did. -/
def fnExactAreJobsUptoRow : OpenClaim := { program := "ytoigcbdblooboaa", sum := "08a83b8a1fa6d234211edcbd792afd90b3045cb4270ae22c24ed37e186469486", func := "loop.example/g01333/laws.FnExactAreJobs", spec := "fnExactAreJobs", unfollowed := true, recurses := true, apart := false, narrowed := true }
def FnExactAreJobsUptoSaid : Prop := fnExactAreJobsUptoRow.holds Try.pinned (OpenSpec.upto fnExactAreJobsSpec)

/-- 'laws.FnExactIsRing', WHERE WHAT IT READS IS OF BULK AT MOST 1048576: true; the input reads as it did. -/
def fnExactIsRingUptoRow : OpenClaim := { program := "ytoigcbdblooboaa", sum := "08a83b8a1fa6d234211edcbd792afd90b3045cb4270ae22c24ed37e186469486", func := "loop.example/g01333/laws.FnExactIsRing", spec := "fnExactIsRing", unfollowed := true, recurses := true, apart := false, narrowed := true }
def FnExactIsRingUptoSaid : Prop := fnExactIsRingUptoRow.holds Try.pinned (OpenSpec.upto fnExactIsRingSpec)

/-- 'laws.FnExactIsLoadPlan', WHERE WHAT IT READS IS OF BULK AT MOST 1048576: true; the input reads as it did. -/
def fnExactIsLoadPlanUptoRow : OpenClaim := { program := "ytoigcbdblooboaa", sum := "08a83b8a1fa6d234211edcbd792afd90b3045cb4270ae22c24ed37e186469486", func := "loop.example/g01333/laws.FnExactIsLoadPlan", spec := "fnExactIsLoadPlan", unfollowed := true, recurses := true, apart := false, narrowed := true }
def FnExactIsLoadPlanUptoSaid : Prop := fnExactIsLoadPlanUptoRow.holds Try.pinned (OpenSpec.upto fnExactIsLoadPlanSpec)

/-- 'laws.FnExactTurnRing', WHERE WHAT IT READS IS OF BULK AT MOST 1048576: true; the input reads as it did. -/
def fnExactTurnRingUptoRow : OpenClaim := { program := "ytoigcbdblooboaa", sum := "08a83b8a1fa6d234211edcbd792afd90b3045cb4270ae22c24ed37e186469486", func := "loop.example/g01333/laws.FnExactTurnRing", spec := "fnExactTurnRing", unfollowed := true, recurses := true, apart := false, narrowed := true }
def FnExactTurnRingUptoSaid : Prop := fnExactTurnRingUptoRow.holds Try.pinned (OpenSpec.upto fnExactTurnRingSpec)

/-- 'laws.FnExactLiftRing', WHERE WHAT IT READS IS OF BULK AT MOST 1048576: true; the input reads as it did. -/
def fnExactLiftRingUptoRow : OpenClaim := { program := "ytoigcbdblooboaa", sum := "08a83b8a1fa6d234211edcbd792afd90b3045cb4270ae22c24ed37e186469486", func := "loop.example/g01333/laws.FnExactLiftRing", spec := "fnExactLiftRing", unfollowed := true, recurses := true, apart := false, narrowed := true }
def FnExactLiftRingUptoSaid : Prop := fnExactLiftRingUptoRow.holds Try.pinned (OpenSpec.upto fnExactLiftRingSpec)

end Rows
end Go.Proofs.Ytoigcbdblooboaa
