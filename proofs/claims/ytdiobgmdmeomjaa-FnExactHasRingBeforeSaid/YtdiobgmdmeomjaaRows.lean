/-
  No cell of these rows narrows 'for every input' (looked for: loops, veiled, ifaces, maps, wideKeys, modest, calm, conditions, laid).
  DERIVED. THE GIVEN ROWS OF THIS SEAT. 5 by the template 'for every input the law returns true; each argument reads behind the call as it read before'; 0 by the template 'total and deterministic' (their statements: YtdiobgmdmeomjaaTotals.lean).
  GIVEN WITH THE SEED: the statements are not yours to turn. If you find one false, say at which input.
  Laid BY PROGRAM, IN A SANDBOX (cutbox-rows.mjs): the forced cells as the released guide's own fill.sh prints them over the translation cf200447b9d89436… (all of the seat's roots in one cut). By AI agents, Wed Nov 11 2026. No macro, syntax, notation, axiom, sorry.
-/
import Derived.Test.YtdiobgmdmeomjaaChecked
import GoSem.Claim
import GoSem.ClaimJoined
import GoSem.ClaimMapViews
import Derived.JoinedTies
import Derived.KernelRfl
namespace Go.Proofs.Ytdiobgmdmeomjaa
/- THE CELL 'sum', in the pinned program and in every row, IS THE sha256 OF THE DUMP (.gsa) THAT YtdiobgmdmeomjaaProg.lean LOADS. Nothing in Lean hashes anything: it is a label: what it is worth is what the hold of that sum in a sandbox is worth. -/
noncomputable def Try.pinned : Pinned := { name := "ytdiobgmdmeomjaa", sum := "cf200447b9d8943647b663b5b5ed3b2b1e8fe48c65b9d250f7e7826779419e7e", checked := Try.checked }
namespace Rows
def none {H : Type} : Left H := { results := [], args := [] }

/-- 'laws.FnExactFirstGreatest': WHATEVER THE INPUT: true; the input reads as it did. -/
def fnExactFirstGreatestSpec : ChangeSpec := { name := "fnExactFirstGreatest", fn := fun _ => fun
  | [d1, d2, d3] => { results := [.lit (.bool true)], args := [d1, d2, d3] }
  | _ => none }
def fnExactFirstGreatestRow : OpenClaim := { program := "ytdiobgmdmeomjaa", sum := "cf200447b9d8943647b663b5b5ed3b2b1e8fe48c65b9d250f7e7826779419e7e", func := "loop.example/g01333/laws.FnExactFirstGreatest", spec := "fnExactFirstGreatest", unfollowed := true, recurses := true, apart := false }
def FnExactFirstGreatestSaid : Prop := fnExactFirstGreatestRow.holds Try.pinned (OpenSpec.ofChange fnExactFirstGreatestSpec)

/-- ITS FALSE NEIGHBOUR: 'it returns false'. Refute it at one input. -/
def fnExactFirstGreatestWrong : ChangeSpec := { name := "fnExactFirstGreatest", fn := fun _ => fun
  | [d1, d2, d3] => { results := [.lit (.bool false)], args := [d1, d2, d3] }
  | _ => none }
def FnExactFirstGreatestWrongFalsely : Prop := fnExactFirstGreatestRow.holds Try.pinned (OpenSpec.ofChange fnExactFirstGreatestWrong)

/-- 'laws.FnExactFirstToAlike': WHATEVER THE INPUT: true; the input reads as it did. -/
def fnExactFirstToAlikeSpec : ChangeSpec := { name := "fnExactFirstToAlike", fn := fun _ => fun
  | [d1, d2] => { results := [.lit (.bool true)], args := [d1, d2] }
  | _ => none }
def fnExactFirstToAlikeRow : OpenClaim := { program := "ytdiobgmdmeomjaa", sum := "cf200447b9d8943647b663b5b5ed3b2b1e8fe48c65b9d250f7e7826779419e7e", func := "loop.example/g01333/laws.FnExactFirstToAlike", spec := "fnExactFirstToAlike", unfollowed := true, recurses := true, apart := false }
def FnExactFirstToAlikeSaid : Prop := fnExactFirstToAlikeRow.holds Try.pinned (OpenSpec.ofChange fnExactFirstToAlikeSpec)

/-- ITS FALSE NEIGHBOUR: 'it returns false'. Refute it at one input. -/
def fnExactFirstToAlikeWrong : ChangeSpec := { name := "fnExactFirstToAlike", fn := fun _ => fun
  | [d1, d2] => { results := [.lit (.bool false)], args := [d1, d2] }
  | _ => none }
def FnExactFirstToAlikeWrongFalsely : Prop := fnExactFirstToAlikeRow.holds Try.pinned (OpenSpec.ofChange fnExactFirstToAlikeWrong)

/-- 'laws.FnExactCountRingsBefore': WHATEVER THE INPUT: true; the input reads as it did. -/
def fnExactCountRingsBeforeSpec : ChangeSpec := { name := "fnExactCountRingsBefore", fn := fun _ => fun
  | [d] => { results := [.lit (.bool true)], args := [d] }
  | _ => none }
def fnExactCountRingsBeforeRow : OpenClaim := { program := "ytdiobgmdmeomjaa", sum := "cf200447b9d8943647b663b5b5ed3b2b1e8fe48c65b9d250f7e7826779419e7e", func := "loop.example/g01333/laws.FnExactCountRingsBefore", spec := "fnExactCountRingsBefore", unfollowed := true, recurses := true, apart := false }
def FnExactCountRingsBeforeSaid : Prop := fnExactCountRingsBeforeRow.holds Try.pinned (OpenSpec.ofChange fnExactCountRingsBeforeSpec)

/-- ITS FALSE NEIGHBOUR: 'it returns false'. Refute it at one input. -/
def fnExactCountRingsBeforeWrong : ChangeSpec := { name := "fnExactCountRingsBefore", fn := fun _ => fun
  | [d] => { results := [.lit (.bool false)], args := [d] }
  | _ => none }
def FnExactCountRingsBeforeWrongFalsely : Prop := fnExactCountRingsBeforeRow.holds Try.pinned (OpenSpec.ofChange fnExactCountRingsBeforeWrong)

/-- 'laws.FnExactHasRingBefore': WHATEVER THE INPUT: true; the input reads as it did. -/
def fnExactHasRingBeforeSpec : ChangeSpec := { name := "fnExactHasRingBefore", fn := fun _ => fun
  | [d] => { results := [.lit (.bool true)], args := [d] }
  | _ => none }
def fnExactHasRingBeforeRow : OpenClaim := { program := "ytdiobgmdmeomjaa", sum := "cf200447b9d8943647b663b5b5ed3b2b1e8fe48c65b9d250f7e7826779419e7e", func := "loop.example/g01333/laws.FnExactHasRingBefore", spec := "fnExactHasRingBefore", unfollowed := true, recurses := true, apart := false }
def FnExactHasRingBeforeSaid : Prop := fnExactHasRingBeforeRow.holds Try.pinned (OpenSpec.ofChange fnExactHasRingBeforeSpec)

/-- ITS FALSE NEIGHBOUR: 'it returns false'. Refute it at one input. -/
def fnExactHasRingBeforeWrong : ChangeSpec := { name := "fnExactHasRingBefore", fn := fun _ => fun
  | [d] => { results := [.lit (.bool false)], args := [d] }
  | _ => none }
def FnExactHasRingBeforeWrongFalsely : Prop := fnExactHasRingBeforeRow.holds Try.pinned (OpenSpec.ofChange fnExactHasRingBeforeWrong)

/-- 'laws.FnExactRingsBefore': WHATEVER THE INPUT: true; the input reads as it did. -/
def fnExactRingsBeforeSpec : ChangeSpec := { name := "fnExactRingsBefore", fn := fun _ => fun
  | [d] => { results := [.lit (.bool true)], args := [d] }
  | _ => none }
def fnExactRingsBeforeRow : OpenClaim := { program := "ytdiobgmdmeomjaa", sum := "cf200447b9d8943647b663b5b5ed3b2b1e8fe48c65b9d250f7e7826779419e7e", func := "loop.example/g01333/laws.FnExactRingsBefore", spec := "fnExactRingsBefore", unfollowed := true, recurses := true, apart := false }
def FnExactRingsBeforeSaid : Prop := fnExactRingsBeforeRow.holds Try.pinned (OpenSpec.ofChange fnExactRingsBeforeSpec)

/-- ITS FALSE NEIGHBOUR: 'it returns false'. Refute it at one input. -/
def fnExactRingsBeforeWrong : ChangeSpec := { name := "fnExactRingsBefore", fn := fun _ => fun
  | [d] => { results := [.lit (.bool false)], args := [d] }
  | _ => none }
def FnExactRingsBeforeWrongFalsely : Prop := fnExactRingsBeforeRow.holds Try.pinned (OpenSpec.ofChange fnExactRingsBeforeWrong)

/- THE SECOND FORM. 'bulk': how many values and letters a reading holds, each counted each time it is reached (what is shared counts as often as it is met; a slice's spare places count too). A statement '..UptoSaid' is the law's where the arguments, and the package variables that the reading takes, are together of bulk at most 1048576: NARROWER than '..Said'. Prove '..Said' where nothing that the law and all that it calls make is longer than what came in: it says more and counts as full. Else prove '..UptoSaid'. A law counts once. -/
mutual
def uptoBulk {H : Type} : DataW H → Nat
  | .lit (.string bytes) => bytes.length + 1
  | .lit _ => 1
  | .nil => 1
  | .ptr d => uptoBulk d + 1
  | .slice elems spare => uptoBulkAll elems + uptoBulkAll spare + 1
  | .agg parts => uptoBulkAll parts + 1
  | .iface _ d => uptoBulk d + 1
  | .map entries => uptoBulkEntries entries + 1
  | .held _ => 1
def uptoBulkAll {H : Type} : List (DataW H) → Nat
  | [] => 0
  | d :: r => uptoBulk d + uptoBulkAll r
def uptoBulkEntries {H : Type} : List (Lit × DataW H) → Nat
  | [] => 0
  | x :: r => uptoBulkEntry x + uptoBulkEntries r
def uptoBulkEntry {H : Type} : Lit × DataW H → Nat
  | (.string bytes, d) => bytes.length + uptoBulk d + 1
  | (_, d) => uptoBulk d + 1
 end
def uptoSmall : (H : Type) → List (DataW H) → Bool := fun _ ds => decide (uptoBulkAll ds ≤ 1048576)
def OpenSpec.upto (s : _root_.Go.ChangeSpec) : _root_.Go.OpenSpec := { _root_.Go.OpenSpec.ofChange s with cond := some uptoSmall }

/-- 'laws.FnExactFirstGreatest', WHERE WHAT IT READS IS OF BULK AT MOST 1048576: true; the input reads as it did. -/
def fnExactFirstGreatestUptoRow : OpenClaim := { program := "ytdiobgmdmeomjaa", sum := "cf200447b9d8943647b663b5b5ed3b2b1e8fe48c65b9d250f7e7826779419e7e", func := "loop.example/g01333/laws.FnExactFirstGreatest", spec := "fnExactFirstGreatest", unfollowed := true, recurses := true, apart := false, narrowed := true }
def FnExactFirstGreatestUptoSaid : Prop := fnExactFirstGreatestUptoRow.holds Try.pinned (OpenSpec.upto fnExactFirstGreatestSpec)

/-- 'laws.FnExactFirstToAlike', WHERE WHAT IT READS IS OF BULK AT MOST 1048576: true; the input reads as it did. -/
def fnExactFirstToAlikeUptoRow : OpenClaim := { program := "ytdiobgmdmeomjaa", sum := "cf200447b9d8943647b663b5b5ed3b2b1e8fe48c65b9d250f7e7826779419e7e", func := "loop.example/g01333/laws.FnExactFirstToAlike", spec := "fnExactFirstToAlike", unfollowed := true, recurses := true, apart := false, narrowed := true }
def FnExactFirstToAlikeUptoSaid : Prop := fnExactFirstToAlikeUptoRow.holds Try.pinned (OpenSpec.upto fnExactFirstToAlikeSpec)

/-- 'laws.FnExactCountRingsBefore', WHERE WHAT IT READS IS OF BULK AT MOST 1048576: true; the input reads as it did. -/
def fnExactCountRingsBeforeUptoRow : OpenClaim := { program := "ytdiobgmdmeomjaa", sum := "cf200447b9d8943647b663b5b5ed3b2b1e8fe48c65b9d250f7e7826779419e7e", func := "loop.example/g01333/laws.FnExactCountRingsBefore", spec := "fnExactCountRingsBefore", unfollowed := true, recurses := true, apart := false, narrowed := true }
def FnExactCountRingsBeforeUptoSaid : Prop := fnExactCountRingsBeforeUptoRow.holds Try.pinned (OpenSpec.upto fnExactCountRingsBeforeSpec)

/-- 'laws.FnExactHasRingBefore', WHERE WHAT IT READS IS OF BULK AT MOST 1048576: true; the input reads as it did. -/
def fnExactHasRingBeforeUptoRow : OpenClaim := { program := "ytdiobgmdmeomjaa", sum := "cf200447b9d8943647b663b5b5ed3b2b1e8fe48c65b9d250f7e7826779419e7e", func := "loop.example/g01333/laws.FnExactHasRingBefore", spec := "fnExactHasRingBefore", unfollowed := true, recurses := true, apart := false, narrowed := true }
def FnExactHasRingBeforeUptoSaid : Prop := fnExactHasRingBeforeUptoRow.holds Try.pinned (OpenSpec.upto fnExactHasRingBeforeSpec)

/-- 'laws.FnExactRingsBefore', WHERE WHAT IT READS IS OF BULK AT MOST 1048576: true; the input reads as it did. -/
def fnExactRingsBeforeUptoRow : OpenClaim := { program := "ytdiobgmdmeomjaa", sum := "cf200447b9d8943647b663b5b5ed3b2b1e8fe48c65b9d250f7e7826779419e7e", func := "loop.example/g01333/laws.FnExactRingsBefore", spec := "fnExactRingsBefore", unfollowed := true, recurses := true, apart := false, narrowed := true }
def FnExactRingsBeforeUptoSaid : Prop := fnExactRingsBeforeUptoRow.holds Try.pinned (OpenSpec.upto fnExactRingsBeforeSpec)

end Rows
end Go.Proofs.Ytdiobgmdmeomjaa
