/-
  NARROWER THAN 'FOR EVERY INPUT', by the rows' own cells (each row's printed sentence says how): FnRingAgain: laid · FnExactPeriodOfRing: laid · FnExactRingAfter: laid · FnExactComesToZero: laid · FnExactGreatestAtLast: laid · FnExactStepsToZero: laid · FnExactSlowestToZero: laid · FnExactCycleOfRing: laid.
  DERIVED. THE GIVEN ROWS OF THIS SEAT. 8 by the template 'for every input the law returns true; each argument reads behind the call as it read before'; 0 by the template 'total and deterministic' (their statements: YtffhhhkdnkdlgaaDoorTotals.lean).
  GIVEN WITH THE SEED: the statements are not yours to turn. If you find one false, say at which input.
  Laid BY PROGRAM, IN A SANDBOX (cutbox-rows.mjs): the forced cells as the released guide's own fill.sh prints them over the translation d02a0dc3e30b2244… (all of the seat's roots in one cut). By AI agents, Wed Nov 11 2026. No macro, syntax, notation, axiom, sorry.
-/
import Derived.Test.YtffhhhkdnkdlgaaDoorChecked
import GoSem.Claim
import GoSem.ClaimJoined
import GoSem.ClaimMapViews
import Derived.JoinedTies
import Derived.KernelRfl
namespace Go.Proofs.YtffhhhkdnkdlgaaDoor
/- THE CELL 'sum', in the pinned program and in every row, IS THE sha256 OF THE DUMP (.gsa) THAT YtffhhhkdnkdlgaaDoorProg.lean LOADS. Nothing in Lean hashes anything: it is a label: what it is worth is what the hold of that sum in a sandbox is worth. -/
noncomputable def Tryd.pinned : Pinned := { name := "ytffhhhkdnkdlgaadoor", sum := "d02a0dc3e30b22440608275e181cb2f04873acf4e513fd08c3116271a3772b5c", checked := Tryd.checked }
namespace Rows
def none {H : Type} : Left H := { results := [], args := [] }

/- WHAT THE LISTED PACKAGE-LEVEL VARIABLES READ AS WHEN THE CALL BEGINS. Each datum BY PROGRAM (the guide's laid-datum.mjs) off the statement by which the dump's own 'gosem.cut.vars' lays the variable. In a bare row this is a premise. The card (YtffhhhkdnkdlgaaDoorCards.lean) ties it to the program's text. -/
def laid_math_bits_deBruijn32tab {H : Type} : DataW H := .agg [.lit (.int .u8 0), .lit (.int .u8 1), .lit (.int .u8 28), .lit (.int .u8 2), .lit (.int .u8 29), .lit (.int .u8 14), .lit (.int .u8 24), .lit (.int .u8 3), .lit (.int .u8 30), .lit (.int .u8 22), .lit (.int .u8 20), .lit (.int .u8 15), .lit (.int .u8 25), .lit (.int .u8 17), .lit (.int .u8 4), .lit (.int .u8 8), .lit (.int .u8 31), .lit (.int .u8 27), .lit (.int .u8 13), .lit (.int .u8 23), .lit (.int .u8 21), .lit (.int .u8 19), .lit (.int .u8 16), .lit (.int .u8 7), .lit (.int .u8 26), .lit (.int .u8 12), .lit (.int .u8 18), .lit (.int .u8 6), .lit (.int .u8 11), .lit (.int .u8 5), .lit (.int .u8 10), .lit (.int .u8 9)]
def laid_math_bits_deBruijn64tab {H : Type} : DataW H := .agg [.lit (.int .u8 0), .lit (.int .u8 1), .lit (.int .u8 56), .lit (.int .u8 2), .lit (.int .u8 57), .lit (.int .u8 49), .lit (.int .u8 28), .lit (.int .u8 3), .lit (.int .u8 61), .lit (.int .u8 58), .lit (.int .u8 42), .lit (.int .u8 50), .lit (.int .u8 38), .lit (.int .u8 29), .lit (.int .u8 17), .lit (.int .u8 4), .lit (.int .u8 62), .lit (.int .u8 47), .lit (.int .u8 59), .lit (.int .u8 36), .lit (.int .u8 45), .lit (.int .u8 43), .lit (.int .u8 51), .lit (.int .u8 22), .lit (.int .u8 53), .lit (.int .u8 39), .lit (.int .u8 33), .lit (.int .u8 30), .lit (.int .u8 24), .lit (.int .u8 18), .lit (.int .u8 12), .lit (.int .u8 5), .lit (.int .u8 63), .lit (.int .u8 55), .lit (.int .u8 48), .lit (.int .u8 27), .lit (.int .u8 60), .lit (.int .u8 41), .lit (.int .u8 37), .lit (.int .u8 16), .lit (.int .u8 46), .lit (.int .u8 35), .lit (.int .u8 44), .lit (.int .u8 21), .lit (.int .u8 52), .lit (.int .u8 32), .lit (.int .u8 23), .lit (.int .u8 11), .lit (.int .u8 54), .lit (.int .u8 26), .lit (.int .u8 40), .lit (.int .u8 15), .lit (.int .u8 34), .lit (.int .u8 20), .lit (.int .u8 31), .lit (.int .u8 10), .lit (.int .u8 25), .lit (.int .u8 14), .lit (.int .u8 19), .lit (.int .u8 9), .lit (.int .u8 13), .lit (.int .u8 8), .lit (.int .u8 7), .lit (.int .u8 6)]
def laid_internal_strconv_uint64pow10 {H : Type} : DataW H := .agg [.lit (.int .u64 1), .lit (.int .u64 10), .lit (.int .u64 100), .lit (.int .u64 1000), .lit (.int .u64 10000), .lit (.int .u64 100000), .lit (.int .u64 1000000), .lit (.int .u64 10000000), .lit (.int .u64 100000000), .lit (.int .u64 1000000000), .lit (.int .u64 10000000000), .lit (.int .u64 100000000000), .lit (.int .u64 1000000000000), .lit (.int .u64 10000000000000), .lit (.int .u64 100000000000000), .lit (.int .u64 1000000000000000), .lit (.int .u64 10000000000000000), .lit (.int .u64 100000000000000000), .lit (.int .u64 1000000000000000000), .lit (.int .u64 10000000000000000000)]

/-- 'laws.FnRingAgain': WHATEVER THE INPUT: true; the input reads as it did. -/
def fnRingAgainSpec : ChangeSpec := { name := "fnRingAgain", fn := fun _ => fun
  | [d1, d2] => { results := [.lit (.bool true)], args := [d1, d2] }
  | _ => none }
def fnRingAgainRow : OpenClaim := { program := "ytffhhhkdnkdlgaadoor", sum := "d02a0dc3e30b22440608275e181cb2f04873acf4e513fd08c3116271a3772b5c", func := "loop.example/g01333/laws.FnRingAgain", spec := "fnRingAgain", inPlace := ["internal/abi.NoEscape", "internal/bytealg.MakeNoZero"], unfollowed := true, recurses := true, named := ["internal/strconv.uint64pow10", "math/bits.deBruijn32tab", "math/bits.deBruijn64tab"], apart := false, laid := [("math/bits.deBruijn32tab", laid_math_bits_deBruijn32tab), ("math/bits.deBruijn64tab", laid_math_bits_deBruijn64tab), ("internal/strconv.uint64pow10", laid_internal_strconv_uint64pow10)] }
def FnRingAgainSaid : Prop := fnRingAgainRow.holds Tryd.pinned (OpenSpec.ofChange fnRingAgainSpec)

/-- ITS FALSE NEIGHBOUR: 'it returns false'. Refute it at one input. -/
def fnRingAgainWrong : ChangeSpec := { name := "fnRingAgain", fn := fun _ => fun
  | [d1, d2] => { results := [.lit (.bool false)], args := [d1, d2] }
  | _ => none }
def FnRingAgainWrongFalsely : Prop := fnRingAgainRow.holds Tryd.pinned (OpenSpec.ofChange fnRingAgainWrong)

/-- 'laws.FnExactPeriodOfRing': WHATEVER THE INPUT: true; the input reads as it did. -/
def fnExactPeriodOfRingSpec : ChangeSpec := { name := "fnExactPeriodOfRing", fn := fun _ => fun
  | [d] => { results := [.lit (.bool true)], args := [d] }
  | _ => none }
def fnExactPeriodOfRingRow : OpenClaim := { program := "ytffhhhkdnkdlgaadoor", sum := "d02a0dc3e30b22440608275e181cb2f04873acf4e513fd08c3116271a3772b5c", func := "loop.example/g01333/laws.FnExactPeriodOfRing", spec := "fnExactPeriodOfRing", inPlace := ["internal/abi.NoEscape", "internal/bytealg.MakeNoZero"], unfollowed := true, recurses := true, named := ["internal/strconv.uint64pow10", "math/bits.deBruijn32tab", "math/bits.deBruijn64tab"], apart := false, laid := [("math/bits.deBruijn32tab", laid_math_bits_deBruijn32tab), ("math/bits.deBruijn64tab", laid_math_bits_deBruijn64tab), ("internal/strconv.uint64pow10", laid_internal_strconv_uint64pow10)] }
def FnExactPeriodOfRingSaid : Prop := fnExactPeriodOfRingRow.holds Tryd.pinned (OpenSpec.ofChange fnExactPeriodOfRingSpec)

/-- ITS FALSE NEIGHBOUR: 'it returns false'. Refute it at one input. -/
def fnExactPeriodOfRingWrong : ChangeSpec := { name := "fnExactPeriodOfRing", fn := fun _ => fun
  | [d] => { results := [.lit (.bool false)], args := [d] }
  | _ => none }
def FnExactPeriodOfRingWrongFalsely : Prop := fnExactPeriodOfRingRow.holds Tryd.pinned (OpenSpec.ofChange fnExactPeriodOfRingWrong)

/-- 'laws.FnExactRingAfter': WHATEVER THE INPUT: true; the input reads as it did. -/
def fnExactRingAfterSpec : ChangeSpec := { name := "fnExactRingAfter", fn := fun _ => fun
  | [d1, d2] => { results := [.lit (.bool true)], args := [d1, d2] }
  | _ => none }
def fnExactRingAfterRow : OpenClaim := { program := "ytffhhhkdnkdlgaadoor", sum := "d02a0dc3e30b22440608275e181cb2f04873acf4e513fd08c3116271a3772b5c", func := "loop.example/g01333/laws.FnExactRingAfter", spec := "fnExactRingAfter", inPlace := ["internal/abi.NoEscape", "internal/bytealg.MakeNoZero"], unfollowed := true, recurses := true, named := ["internal/strconv.uint64pow10", "math/bits.deBruijn32tab", "math/bits.deBruijn64tab"], apart := false, laid := [("math/bits.deBruijn32tab", laid_math_bits_deBruijn32tab), ("math/bits.deBruijn64tab", laid_math_bits_deBruijn64tab), ("internal/strconv.uint64pow10", laid_internal_strconv_uint64pow10)] }
def FnExactRingAfterSaid : Prop := fnExactRingAfterRow.holds Tryd.pinned (OpenSpec.ofChange fnExactRingAfterSpec)

/-- ITS FALSE NEIGHBOUR: 'it returns false'. Refute it at one input. -/
def fnExactRingAfterWrong : ChangeSpec := { name := "fnExactRingAfter", fn := fun _ => fun
  | [d1, d2] => { results := [.lit (.bool false)], args := [d1, d2] }
  | _ => none }
def FnExactRingAfterWrongFalsely : Prop := fnExactRingAfterRow.holds Tryd.pinned (OpenSpec.ofChange fnExactRingAfterWrong)

/-- 'laws.FnExactComesToZero': WHATEVER THE INPUT: true; the input reads as it did. -/
def fnExactComesToZeroSpec : ChangeSpec := { name := "fnExactComesToZero", fn := fun _ => fun
  | [d] => { results := [.lit (.bool true)], args := [d] }
  | _ => none }
def fnExactComesToZeroRow : OpenClaim := { program := "ytffhhhkdnkdlgaadoor", sum := "d02a0dc3e30b22440608275e181cb2f04873acf4e513fd08c3116271a3772b5c", func := "loop.example/g01333/laws.FnExactComesToZero", spec := "fnExactComesToZero", inPlace := ["internal/abi.NoEscape", "internal/bytealg.MakeNoZero"], unfollowed := true, recurses := true, named := ["internal/strconv.uint64pow10", "math/bits.deBruijn32tab", "math/bits.deBruijn64tab"], apart := false, laid := [("math/bits.deBruijn32tab", laid_math_bits_deBruijn32tab), ("math/bits.deBruijn64tab", laid_math_bits_deBruijn64tab), ("internal/strconv.uint64pow10", laid_internal_strconv_uint64pow10)] }
def FnExactComesToZeroSaid : Prop := fnExactComesToZeroRow.holds Tryd.pinned (OpenSpec.ofChange fnExactComesToZeroSpec)

/-- ITS FALSE NEIGHBOUR: 'it returns false'. Refute it at one input. -/
def fnExactComesToZeroWrong : ChangeSpec := { name := "fnExactComesToZero", fn := fun _ => fun
  | [d] => { results := [.lit (.bool false)], args := [d] }
  | _ => none }
def FnExactComesToZeroWrongFalsely : Prop := fnExactComesToZeroRow.holds Tryd.pinned (OpenSpec.ofChange fnExactComesToZeroWrong)

/-- 'laws.FnExactGreatestAtLast': WHATEVER THE INPUT: true; the input reads as it did. -/
def fnExactGreatestAtLastSpec : ChangeSpec := { name := "fnExactGreatestAtLast", fn := fun _ => fun
  | [d] => { results := [.lit (.bool true)], args := [d] }
  | _ => none }
def fnExactGreatestAtLastRow : OpenClaim := { program := "ytffhhhkdnkdlgaadoor", sum := "d02a0dc3e30b22440608275e181cb2f04873acf4e513fd08c3116271a3772b5c", func := "loop.example/g01333/laws.FnExactGreatestAtLast", spec := "fnExactGreatestAtLast", inPlace := ["internal/abi.NoEscape", "internal/bytealg.MakeNoZero"], unfollowed := true, recurses := true, named := ["internal/strconv.uint64pow10", "math/bits.deBruijn32tab", "math/bits.deBruijn64tab"], apart := false, laid := [("math/bits.deBruijn32tab", laid_math_bits_deBruijn32tab), ("math/bits.deBruijn64tab", laid_math_bits_deBruijn64tab), ("internal/strconv.uint64pow10", laid_internal_strconv_uint64pow10)] }
def FnExactGreatestAtLastSaid : Prop := fnExactGreatestAtLastRow.holds Tryd.pinned (OpenSpec.ofChange fnExactGreatestAtLastSpec)

/-- ITS FALSE NEIGHBOUR: 'it returns false'. Refute it at one input. -/
def fnExactGreatestAtLastWrong : ChangeSpec := { name := "fnExactGreatestAtLast", fn := fun _ => fun
  | [d] => { results := [.lit (.bool false)], args := [d] }
  | _ => none }
def FnExactGreatestAtLastWrongFalsely : Prop := fnExactGreatestAtLastRow.holds Tryd.pinned (OpenSpec.ofChange fnExactGreatestAtLastWrong)

/-- 'laws.FnExactStepsToZero': WHATEVER THE INPUT: true; the input reads as it did. -/
def fnExactStepsToZeroSpec : ChangeSpec := { name := "fnExactStepsToZero", fn := fun _ => fun
  | [d] => { results := [.lit (.bool true)], args := [d] }
  | _ => none }
def fnExactStepsToZeroRow : OpenClaim := { program := "ytffhhhkdnkdlgaadoor", sum := "d02a0dc3e30b22440608275e181cb2f04873acf4e513fd08c3116271a3772b5c", func := "loop.example/g01333/laws.FnExactStepsToZero", spec := "fnExactStepsToZero", inPlace := ["internal/abi.NoEscape", "internal/bytealg.MakeNoZero"], unfollowed := true, recurses := true, named := ["internal/strconv.uint64pow10", "math/bits.deBruijn32tab", "math/bits.deBruijn64tab"], apart := false, laid := [("math/bits.deBruijn32tab", laid_math_bits_deBruijn32tab), ("math/bits.deBruijn64tab", laid_math_bits_deBruijn64tab), ("internal/strconv.uint64pow10", laid_internal_strconv_uint64pow10)] }
def FnExactStepsToZeroSaid : Prop := fnExactStepsToZeroRow.holds Tryd.pinned (OpenSpec.ofChange fnExactStepsToZeroSpec)

/-- ITS FALSE NEIGHBOUR: 'it returns false'. Refute it at one input. -/
def fnExactStepsToZeroWrong : ChangeSpec := { name := "fnExactStepsToZero", fn := fun _ => fun
  | [d] => { results := [.lit (.bool false)], args := [d] }
  | _ => none }
def FnExactStepsToZeroWrongFalsely : Prop := fnExactStepsToZeroRow.holds Tryd.pinned (OpenSpec.ofChange fnExactStepsToZeroWrong)

/-- 'laws.FnExactSlowestToZero': WHATEVER THE INPUT: true; the input reads as it did. -/
def fnExactSlowestToZeroSpec : ChangeSpec := { name := "fnExactSlowestToZero", fn := fun _ => fun
  | [d1, d2] => { results := [.lit (.bool true)], args := [d1, d2] }
  | _ => none }
def fnExactSlowestToZeroRow : OpenClaim := { program := "ytffhhhkdnkdlgaadoor", sum := "d02a0dc3e30b22440608275e181cb2f04873acf4e513fd08c3116271a3772b5c", func := "loop.example/g01333/laws.FnExactSlowestToZero", spec := "fnExactSlowestToZero", inPlace := ["internal/abi.NoEscape", "internal/bytealg.MakeNoZero"], unfollowed := true, recurses := true, named := ["internal/strconv.uint64pow10", "math/bits.deBruijn32tab", "math/bits.deBruijn64tab"], apart := false, laid := [("math/bits.deBruijn32tab", laid_math_bits_deBruijn32tab), ("math/bits.deBruijn64tab", laid_math_bits_deBruijn64tab), ("internal/strconv.uint64pow10", laid_internal_strconv_uint64pow10)] }
def FnExactSlowestToZeroSaid : Prop := fnExactSlowestToZeroRow.holds Tryd.pinned (OpenSpec.ofChange fnExactSlowestToZeroSpec)

/-- ITS FALSE NEIGHBOUR: 'it returns false'. Refute it at one input. -/
def fnExactSlowestToZeroWrong : ChangeSpec := { name := "fnExactSlowestToZero", fn := fun _ => fun
  | [d1, d2] => { results := [.lit (.bool false)], args := [d1, d2] }
  | _ => none }
def FnExactSlowestToZeroWrongFalsely : Prop := fnExactSlowestToZeroRow.holds Tryd.pinned (OpenSpec.ofChange fnExactSlowestToZeroWrong)

/-- 'laws.FnExactCycleOfRing': WHATEVER THE INPUT: true; the input reads as it did. -/
def fnExactCycleOfRingSpec : ChangeSpec := { name := "fnExactCycleOfRing", fn := fun _ => fun
  | [d] => { results := [.lit (.bool true)], args := [d] }
  | _ => none }
def fnExactCycleOfRingRow : OpenClaim := { program := "ytffhhhkdnkdlgaadoor", sum := "d02a0dc3e30b22440608275e181cb2f04873acf4e513fd08c3116271a3772b5c", func := "loop.example/g01333/laws.FnExactCycleOfRing", spec := "fnExactCycleOfRing", inPlace := ["internal/abi.NoEscape", "internal/bytealg.MakeNoZero"], unfollowed := true, recurses := true, named := ["internal/strconv.uint64pow10", "math/bits.deBruijn32tab", "math/bits.deBruijn64tab"], apart := false, laid := [("math/bits.deBruijn32tab", laid_math_bits_deBruijn32tab), ("math/bits.deBruijn64tab", laid_math_bits_deBruijn64tab), ("internal/strconv.uint64pow10", laid_internal_strconv_uint64pow10)] }
def FnExactCycleOfRingSaid : Prop := fnExactCycleOfRingRow.holds Tryd.pinned (OpenSpec.ofChange fnExactCycleOfRingSpec)

/-- ITS FALSE NEIGHBOUR: 'it returns false'. Refute it at one input. -/
def fnExactCycleOfRingWrong : ChangeSpec := { name := "fnExactCycleOfRing", fn := fun _ => fun
  | [d] => { results := [.lit (.bool false)], args := [d] }
  | _ => none }
def FnExactCycleOfRingWrongFalsely : Prop := fnExactCycleOfRingRow.holds Tryd.pinned (OpenSpec.ofChange fnExactCycleOfRingWrong)

/- THE SECOND FORM. 'bulk': how many values and letters a reading holds, each counted each time it is reached (what is shared counts as often as it is met; a slice's spare places count too). A statement '..UptoSaid' is the law's where the arguments, and the package variables that the reading takes, are together of bulk at most 1048576: NARROWER than '..Said'. Prove '..Said' where nothing that the law and all that it calls make is longer than what came in: it says more and counts as full. Else prove '..UptoSaid'. A law counts once. -/
mutual
def uptoBulk {H : Type} : DataW H → Nat
  | .lit (.string bytes) => bytes.length + 1
  | .lit _ => 1
  | .nil => 1
  | .ptr d => uptoBulk d + 1
  | .slice elems spare => uptoBulkAll elems + uptoBulkAll spare + 1
  | .agg parts => uptoBulkAll parts + 1
  | .iface _ d => uptoBulk d + 1
  | .map entries => uptoBulkEntries entries + 1
  | .held _ => 1
def uptoBulkAll {H : Type} : List (DataW H) → Nat
  | [] => 0
  | d :: r => uptoBulk d + uptoBulkAll r
def uptoBulkEntries {H : Type} : List (Lit × DataW H) → Nat
  | [] => 0
  | x :: r => uptoBulkEntry x + uptoBulkEntries r
def uptoBulkEntry {H : Type} : Lit × DataW H → Nat
  | (.string bytes, d) => bytes.length + uptoBulk d + 1
  | (_, d) => uptoBulk d + 1
 end
def uptoSmall : (H : Type) → List (DataW H) → Bool := fun _ ds => decide (uptoBulkAll ds ≤ 1048576)
def OpenSpec.upto (s : _root_.Go.ChangeSpec) : _root_.Go.OpenSpec := { _root_.Go.OpenSpec.ofChange s with cond := some uptoSmall }

/-- 'laws.FnRingAgain', WHERE WHAT IT READS IS OF BULK AT MOST 1048576: true; the input reads as it did. -/
def fnRingAgainUptoRow : OpenClaim := { program := "ytffhhhkdnkdlgaadoor", sum := "d02a0dc3e30b22440608275e181cb2f04873acf4e513fd08c3116271a3772b5c", func := "loop.example/g01333/laws.FnRingAgain", spec := "fnRingAgain", inPlace := ["internal/abi.NoEscape", "internal/bytealg.MakeNoZero"], unfollowed := true, recurses := true, named := ["internal/strconv.uint64pow10", "math/bits.deBruijn32tab", "math/bits.deBruijn64tab"], apart := false, laid := [("math/bits.deBruijn32tab", laid_math_bits_deBruijn32tab), ("math/bits.deBruijn64tab", laid_math_bits_deBruijn64tab), ("internal/strconv.uint64pow10", laid_internal_strconv_uint64pow10)], narrowed := true }
def FnRingAgainUptoSaid : Prop := fnRingAgainUptoRow.holds Tryd.pinned (OpenSpec.upto fnRingAgainSpec)

/-- 'laws.FnExactPeriodOfRing', WHERE WHAT IT READS IS OF BULK AT MOST 1048576: true; the input reads as it did. -/
def fnExactPeriodOfRingUptoRow : OpenClaim := { program := "ytffhhhkdnkdlgaadoor", sum := "d02a0dc3e30b22440608275e181cb2f04873acf4e513fd08c3116271a3772b5c", func := "loop.example/g01333/laws.FnExactPeriodOfRing", spec := "fnExactPeriodOfRing", inPlace := ["internal/abi.NoEscape", "internal/bytealg.MakeNoZero"], unfollowed := true, recurses := true, named := ["internal/strconv.uint64pow10", "math/bits.deBruijn32tab", "math/bits.deBruijn64tab"], apart := false, laid := [("math/bits.deBruijn32tab", laid_math_bits_deBruijn32tab), ("math/bits.deBruijn64tab", laid_math_bits_deBruijn64tab), ("internal/strconv.uint64pow10", laid_internal_strconv_uint64pow10)], narrowed := true }
def FnExactPeriodOfRingUptoSaid : Prop := fnExactPeriodOfRingUptoRow.holds Tryd.pinned (OpenSpec.upto fnExactPeriodOfRingSpec)

/-- 'laws.FnExactRingAfter', WHERE WHAT IT READS IS OF BULK AT MOST 1048576: true; the input reads as it did. -/
def fnExactRingAfterUptoRow : OpenClaim := { program := "ytffhhhkdnkdlgaadoor", sum := "d02a0dc3e30b22440608275e181cb2f04873acf4e513fd08c3116271a3772b5c", func := "loop.example/g01333/laws.FnExactRingAfter", spec := "fnExactRingAfter", inPlace := ["internal/abi.NoEscape", "internal/bytealg.MakeNoZero"], unfollowed := true, recurses := true, named := ["internal/strconv.uint64pow10", "math/bits.deBruijn32tab", "math/bits.deBruijn64tab"], apart := false, laid := [("math/bits.deBruijn32tab", laid_math_bits_deBruijn32tab), ("math/bits.deBruijn64tab", laid_math_bits_deBruijn64tab), ("internal/strconv.uint64pow10", laid_internal_strconv_uint64pow10)], narrowed := true }
def FnExactRingAfterUptoSaid : Prop := fnExactRingAfterUptoRow.holds Tryd.pinned (OpenSpec.upto fnExactRingAfterSpec)

/-- 'laws.FnExactComesToZero', WHERE WHAT IT READS IS OF BULK AT MOST 1048576: true; the input reads as it did. -/
def fnExactComesToZeroUptoRow : OpenClaim := { program := "ytffhhhkdnkdlgaadoor", sum := "d02a0dc3e30b22440608275e181cb2f04873acf4e513fd08c3116271a3772b5c", func := "loop.example/g01333/laws.FnExactComesToZero", spec := "fnExactComesToZero", inPlace := ["internal/abi.NoEscape", "internal/bytealg.MakeNoZero"], unfollowed := true, recurses := true, named := ["internal/strconv.uint64pow10", "math/bits.deBruijn32tab", "math/bits.deBruijn64tab"], apart := false, laid := [("math/bits.deBruijn32tab", laid_math_bits_deBruijn32tab), ("math/bits.deBruijn64tab", laid_math_bits_deBruijn64tab), ("internal/strconv.uint64pow10", laid_internal_strconv_uint64pow10)], narrowed := true }
def FnExactComesToZeroUptoSaid : Prop := fnExactComesToZeroUptoRow.holds Tryd.pinned (OpenSpec.upto fnExactComesToZeroSpec)

/-- 'laws.FnExactGreatestAtLast', WHERE WHAT IT READS IS OF BULK AT MOST 1048576: true; the input reads as it did. -/
def fnExactGreatestAtLastUptoRow : OpenClaim := { program := "ytffhhhkdnkdlgaadoor", sum := "d02a0dc3e30b22440608275e181cb2f04873acf4e513fd08c3116271a3772b5c", func := "loop.example/g01333/laws.FnExactGreatestAtLast", spec := "fnExactGreatestAtLast", inPlace := ["internal/abi.NoEscape", "internal/bytealg.MakeNoZero"], unfollowed := true, recurses := true, named := ["internal/strconv.uint64pow10", "math/bits.deBruijn32tab", "math/bits.deBruijn64tab"], apart := false, laid := [("math/bits.deBruijn32tab", laid_math_bits_deBruijn32tab), ("math/bits.deBruijn64tab", laid_math_bits_deBruijn64tab), ("internal/strconv.uint64pow10", laid_internal_strconv_uint64pow10)], narrowed := true }
def FnExactGreatestAtLastUptoSaid : Prop := fnExactGreatestAtLastUptoRow.holds Tryd.pinned (OpenSpec.upto fnExactGreatestAtLastSpec)

/-- 'laws.FnExactStepsToZero', WHERE WHAT IT READS IS OF BULK AT MOST 1048576: true; the input reads as it did. -/
def fnExactStepsToZeroUptoRow : OpenClaim := { program := "ytffhhhkdnkdlgaadoor", sum := "d02a0dc3e30b22440608275e181cb2f04873acf4e513fd08c3116271a3772b5c", func := "loop.example/g01333/laws.FnExactStepsToZero", spec := "fnExactStepsToZero", inPlace := ["internal/abi.NoEscape", "internal/bytealg.MakeNoZero"], unfollowed := true, recurses := true, named := ["internal/strconv.uint64pow10", "math/bits.deBruijn32tab", "math/bits.deBruijn64tab"], apart := false, laid := [("math/bits.deBruijn32tab", laid_math_bits_deBruijn32tab), ("math/bits.deBruijn64tab", laid_math_bits_deBruijn64tab), ("internal/strconv.uint64pow10", laid_internal_strconv_uint64pow10)], narrowed := true }
def FnExactStepsToZeroUptoSaid : Prop := fnExactStepsToZeroUptoRow.holds Tryd.pinned (OpenSpec.upto fnExactStepsToZeroSpec)

/-- 'laws.FnExactSlowestToZero', WHERE WHAT IT READS IS OF BULK AT MOST 1048576: true; the input reads as it did. -/
def fnExactSlowestToZeroUptoRow : OpenClaim := { program := "ytffhhhkdnkdlgaadoor", sum := "d02a0dc3e30b22440608275e181cb2f04873acf4e513fd08c3116271a3772b5c", func := "loop.example/g01333/laws.FnExactSlowestToZero", spec := "fnExactSlowestToZero", inPlace := ["internal/abi.NoEscape", "internal/bytealg.MakeNoZero"], unfollowed := true, recurses := true, named := ["internal/strconv.uint64pow10", "math/bits.deBruijn32tab", "math/bits.deBruijn64tab"], apart := false, laid := [("math/bits.deBruijn32tab", laid_math_bits_deBruijn32tab), ("math/bits.deBruijn64tab", laid_math_bits_deBruijn64tab), ("internal/strconv.uint64pow10", laid_internal_strconv_uint64pow10)], narrowed := true }
def FnExactSlowestToZeroUptoSaid : Prop := fnExactSlowestToZeroUptoRow.holds Tryd.pinned (OpenSpec.upto fnExactSlowestToZeroSpec)

/-- 'laws.FnExactCycleOfRing', WHERE WHAT IT READS IS OF BULK AT MOST 1048576: true; the input reads as it did. -/
def fnExactCycleOfRingUptoRow : OpenClaim := { program := "ytffhhhkdnkdlgaadoor", sum := "d02a0dc3e30b22440608275e181cb2f04873acf4e513fd08c3116271a3772b5c", func := "loop.example/g01333/laws.FnExactCycleOfRing", spec := "fnExactCycleOfRing", inPlace := ["internal/abi.NoEscape", "internal/bytealg.MakeNoZero"], unfollowed := true, recurses := true, named := ["internal/strconv.uint64pow10", "math/bits.deBruijn32tab", "math/bits.deBruijn64tab"], apart := false, laid := [("math/bits.deBruijn32tab", laid_math_bits_deBruijn32tab), ("math/bits.deBruijn64tab", laid_math_bits_deBruijn64tab), ("internal/strconv.uint64pow10", laid_internal_strconv_uint64pow10)], narrowed := true }
def FnExactCycleOfRingUptoSaid : Prop := fnExactCycleOfRingUptoRow.holds Tryd.pinned (OpenSpec.upto fnExactCycleOfRingSpec)

end Rows
end Go.Proofs.YtffhhhkdnkdlgaaDoor
