/-
  No cell of these rows narrows 'for every input' (looked for: loops, veiled, ifaces, maps, wideKeys, modest, calm, conditions, laid).
  DERIVED. THE GIVEN ROWS OF THIS SEAT. 3 by the template 'for every input the law returns true; each argument reads behind the call as it read before'; 0 by the template 'total and deterministic' (their statements: YtpeifbiboghceaaTotals.lean).
  GIVEN WITH THE SEED: the statements are not yours to turn. If you find one false, say at which input.
  Laid BY PROGRAM, IN A SANDBOX (cutbox-rows.mjs): the forced cells as the released guide's own fill.sh prints them over the translation 4f4b991c9d6412d5… (all of the seat's roots in one cut). By AI agents, Wed Nov 11 2026. No macro, syntax, notation, axiom, sorry.
-/
import Derived.Test.YtpeifbiboghceaaChecked
import GoSem.Claim
import GoSem.ClaimJoined
import GoSem.ClaimMapViews
import Derived.JoinedTies
import Derived.KernelRfl
namespace Go.Proofs.Ytpeifbiboghceaa
/- THE CELL 'sum', in the pinned program and in every row, IS THE sha256 OF THE DUMP (.gsa) THAT YtpeifbiboghceaaProg.lean LOADS. Nothing in Lean hashes anything: it is a label: what it is worth is what the hold of that sum in a sandbox is worth. -/
noncomputable def Try.pinned : Pinned := { name := "ytpeifbiboghceaa", sum := "4f4b991c9d6412d5e68aab5779bd399f33ca467316a8ffe7da5c3c471ccbfcf8", checked := Try.checked }
namespace Rows
def none {H : Type} : Left H := { results := [], args := [] }

/-- 'laws.FnExactFlagsText': WHATEVER THE INPUT: true; the input reads as it did. -/
def fnExactFlagsTextSpec : ChangeSpec := { name := "fnExactFlagsText", fn := fun _ => fun
  | [d] => { results := [.lit (.bool true)], args := [d] }
  | _ => none }
def fnExactFlagsTextRow : OpenClaim := { program := "ytpeifbiboghceaa", sum := "4f4b991c9d6412d5e68aab5779bd399f33ca467316a8ffe7da5c3c471ccbfcf8", func := "loop.example/g00247/laws.FnExactFlagsText", spec := "fnExactFlagsText", inPlace := ["internal/abi.NoEscape", "internal/bytealg.MakeNoZero"], apart := false }
def FnExactFlagsTextSaid : Prop := fnExactFlagsTextRow.holds Try.pinned (OpenSpec.ofChange fnExactFlagsTextSpec)

/-- ITS FALSE NEIGHBOUR: 'it returns false'. Refute it at one input. -/
def fnExactFlagsTextWrong : ChangeSpec := { name := "fnExactFlagsText", fn := fun _ => fun
  | [d] => { results := [.lit (.bool false)], args := [d] }
  | _ => none }
def FnExactFlagsTextWrongFalsely : Prop := fnExactFlagsTextRow.holds Try.pinned (OpenSpec.ofChange fnExactFlagsTextWrong)

/-- 'laws.FnExactBodyOf': WHATEVER THE INPUT: true; the input reads as it did. -/
def fnExactBodyOfSpec : ChangeSpec := { name := "fnExactBodyOf", fn := fun _ => fun
  | [d] => { results := [.lit (.bool true)], args := [d] }
  | _ => none }
def fnExactBodyOfRow : OpenClaim := { program := "ytpeifbiboghceaa", sum := "4f4b991c9d6412d5e68aab5779bd399f33ca467316a8ffe7da5c3c471ccbfcf8", func := "loop.example/g00247/laws.FnExactBodyOf", spec := "fnExactBodyOf", inPlace := ["internal/bytealg.IndexByteString", "internal/bytealg.IndexString"], named := ["internal/bytealg.MaxLen"], apart := false }
def FnExactBodyOfSaid : Prop := fnExactBodyOfRow.holds Try.pinned (OpenSpec.ofChange fnExactBodyOfSpec)

/-- ITS FALSE NEIGHBOUR: 'it returns false'. Refute it at one input. -/
def fnExactBodyOfWrong : ChangeSpec := { name := "fnExactBodyOf", fn := fun _ => fun
  | [d] => { results := [.lit (.bool false)], args := [d] }
  | _ => none }
def FnExactBodyOfWrongFalsely : Prop := fnExactBodyOfRow.holds Try.pinned (OpenSpec.ofChange fnExactBodyOfWrong)

/-- 'laws.FnEachFlag': WHATEVER THE INPUT: true; the input reads as it did. -/
def fnEachFlagSpec : ChangeSpec := { name := "fnEachFlag", fn := fun _ => fun
  | [d] => { results := [.lit (.bool true)], args := [d] }
  | _ => none }
def fnEachFlagRow : OpenClaim := { program := "ytpeifbiboghceaa", sum := "4f4b991c9d6412d5e68aab5779bd399f33ca467316a8ffe7da5c3c471ccbfcf8", func := "loop.example/g00247/laws.FnEachFlag", spec := "fnEachFlag", inPlace := ["internal/abi.NoEscape", "internal/bytealg.MakeNoZero"], apart := false }
def FnEachFlagSaid : Prop := fnEachFlagRow.holds Try.pinned (OpenSpec.ofChange fnEachFlagSpec)

/-- ITS FALSE NEIGHBOUR: 'it returns false'. Refute it at one input. -/
def fnEachFlagWrong : ChangeSpec := { name := "fnEachFlag", fn := fun _ => fun
  | [d] => { results := [.lit (.bool false)], args := [d] }
  | _ => none }
def FnEachFlagWrongFalsely : Prop := fnEachFlagRow.holds Try.pinned (OpenSpec.ofChange fnEachFlagWrong)

/- THE SECOND FORM. 'bulk': how many values and letters a reading holds, each counted each time it is reached (what is shared counts as often as it is met; a slice's spare places count too). A statement '..UptoSaid' is the law's where the arguments, and the package variables that the reading takes, are together of bulk at most 1048576: NARROWER than '..Said'. Prove '..Said' where nothing that the law and all that it calls make is longer than what came in: it says more and counts as full. Else prove '..UptoSaid'. A law counts once. -/
mutual
def uptoBulk {H : Type} : DataW H → Nat
  | .lit (.string bytes) => bytes.length + 1
  | .lit _ => 1
  | .nil => 1
  | .ptr d => uptoBulk d + 1
  | .slice elems spare => uptoBulkAll elems + uptoBulkAll spare + 1
  | .agg parts => uptoBulkAll parts + 1
  | .iface _ d => uptoBulk d + 1
  | .map entries => uptoBulkEntries entries + 1
  | .held _ => 1
def uptoBulkAll {H : Type} : List (DataW H) → Nat
  | [] => 0
  | d :: r => uptoBulk d + uptoBulkAll r
def uptoBulkEntries {H : Type} : List (Lit × DataW H) → Nat
  | [] => 0
  | x :: r => uptoBulkEntry x + uptoBulkEntries r
def uptoBulkEntry {H : Type} : Lit × DataW H → Nat
  | (.string bytes, d) => bytes.length + uptoBulk d + 1
  | (_, d) => uptoBulk d + 1
 end
def uptoSmall : (H : Type) → List (DataW H) → Bool := fun _ ds => decide (uptoBulkAll ds ≤ 1048576)
def OpenSpec.upto (s : _root_.Go.ChangeSpec) : _root_.Go.OpenSpec := { _root_.Go.OpenSpec.ofChange s with cond := some uptoSmall }

/-- 'laws.FnExactFlagsText', WHERE WHAT IT READS IS OF BULK AT MOST 1048576: true; the input reads as it did. -/
def fnExactFlagsTextUptoRow : OpenClaim := { program := "ytpeifbiboghceaa", sum := "4f4b991c9d6412d5e68aab5779bd399f33ca467316a8ffe7da5c3c471ccbfcf8", func := "loop.example/g00247/laws.FnExactFlagsText", spec := "fnExactFlagsText", inPlace := ["internal/abi.NoEscape", "internal/bytealg.MakeNoZero"], apart := false, narrowed := true }
def FnExactFlagsTextUptoSaid : Prop := fnExactFlagsTextUptoRow.holds Try.pinned (OpenSpec.upto fnExactFlagsTextSpec)

/-- 'laws.FnExactBodyOf', WHERE WHAT IT READS IS OF BULK AT MOST 1048576: true; the input reads as it did. -/
def fnExactBodyOfUptoRow : OpenClaim := { program := "ytpeifbiboghceaa", sum := "4f4b991c9d6412d5e68aab5779bd399f33ca467316a8ffe7da5c3c471ccbfcf8", func := "loop.example/g00247/laws.FnExactBodyOf", spec := "fnExactBodyOf", inPlace := ["internal/bytealg.IndexByteString", "internal/bytealg.IndexString"], named := ["internal/bytealg.MaxLen"], apart := false, narrowed := true }
def FnExactBodyOfUptoSaid : Prop := fnExactBodyOfUptoRow.holds Try.pinned (OpenSpec.upto fnExactBodyOfSpec)

/-- 'laws.FnEachFlag', WHERE WHAT IT READS IS OF BULK AT MOST 1048576: true; the input reads as it did. -/
def fnEachFlagUptoRow : OpenClaim := { program := "ytpeifbiboghceaa", sum := "4f4b991c9d6412d5e68aab5779bd399f33ca467316a8ffe7da5c3c471ccbfcf8", func := "loop.example/g00247/laws.FnEachFlag", spec := "fnEachFlag", inPlace := ["internal/abi.NoEscape", "internal/bytealg.MakeNoZero"], apart := false, narrowed := true }
def FnEachFlagUptoSaid : Prop := fnEachFlagUptoRow.holds Try.pinned (OpenSpec.upto fnEachFlagSpec)

end Rows
end Go.Proofs.Ytpeifbiboghceaa
