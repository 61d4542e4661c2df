/-
  No cell of these rows narrows 'for every input' (looked for: loops, veiled, ifaces, maps, wideKeys, modest, calm, conditions, laid).
  DERIVED. THE GIVEN ROWS OF THIS SEAT. 9 by the template 'for every input the law returns true; each argument reads behind the call as it read before'; 0 by the template 'total and deterministic' (their statements: YthngecooaddddaaTotals.lean).
  GIVEN WITH THE SEED: the statements are not yours to turn. If you find one false, say at which input.
  Laid BY PROGRAM, IN A SANDBOX (cutbox-rows.mjs): the forced cells as the released guide's own fill.sh prints them over the translation 34a5fca6db5d5f84… (all of the seat's roots in one cut). By AI agents, Wed Nov 11 2026. No macro, syntax, notation, axiom, sorry.
-/
import Derived.Test.YthngecooaddddaaChecked
import GoSem.Claim
import GoSem.ClaimJoined
import GoSem.ClaimMapViews
import Derived.JoinedTies
import Derived.KernelRfl
namespace Go.Proofs.Ythngecooaddddaa
/- THE CELL 'sum', in the pinned program and in every row, IS THE sha256 OF THE DUMP (.gsa) THAT YthngecooaddddaaProg.lean LOADS. Nothing in Lean hashes anything: it is a label: what it is worth is what the hold of that sum in a sandbox is worth. -/
noncomputable def Try.pinned : Pinned := { name := "ythngecooaddddaa", sum := "34a5fca6db5d5f84ca0e33fb7e3b7f7678f4e883e28a6d5d6c9c939202a8d479", checked := Try.checked }
namespace Rows
def none {H : Type} : Left H := { results := [], args := [] }

/-- 'laws.FnExactSetHas': WHATEVER THE INPUT: true; the input reads as it did. -/
def fnExactSetHasSpec : ChangeSpec := { name := "fnExactSetHas", fn := fun _ => fun
  | [d1, d2] => { results := [.lit (.bool true)], args := [d1, d2] }
  | _ => none }
def fnExactSetHasRow : OpenClaim := { program := "ythngecooaddddaa", sum := "34a5fca6db5d5f84ca0e33fb7e3b7f7678f4e883e28a6d5d6c9c939202a8d479", func := "loop.example/g00247/laws.FnExactSetHas", spec := "fnExactSetHas", apart := false }
def FnExactSetHasSaid : Prop := fnExactSetHasRow.holds Try.pinned (OpenSpec.ofChange fnExactSetHasSpec)

/-- ITS FALSE NEIGHBOUR: 'it returns false'. Refute it at one input. -/
def fnExactSetHasWrong : ChangeSpec := { name := "fnExactSetHas", fn := fun _ => fun
  | [d1, d2] => { results := [.lit (.bool false)], args := [d1, d2] }
  | _ => none }
def FnExactSetHasWrongFalsely : Prop := fnExactSetHasRow.holds Try.pinned (OpenSpec.ofChange fnExactSetHasWrong)

/-- 'laws.FnExactSetOk': WHATEVER THE INPUT: true; the input reads as it did. -/
def fnExactSetOkSpec : ChangeSpec := { name := "fnExactSetOk", fn := fun _ => fun
  | [d] => { results := [.lit (.bool true)], args := [d] }
  | _ => none }
def fnExactSetOkRow : OpenClaim := { program := "ythngecooaddddaa", sum := "34a5fca6db5d5f84ca0e33fb7e3b7f7678f4e883e28a6d5d6c9c939202a8d479", func := "loop.example/g00247/laws.FnExactSetOk", spec := "fnExactSetOk", apart := false }
def FnExactSetOkSaid : Prop := fnExactSetOkRow.holds Try.pinned (OpenSpec.ofChange fnExactSetOkSpec)

/-- ITS FALSE NEIGHBOUR: 'it returns false'. Refute it at one input. -/
def fnExactSetOkWrong : ChangeSpec := { name := "fnExactSetOk", fn := fun _ => fun
  | [d] => { results := [.lit (.bool false)], args := [d] }
  | _ => none }
def FnExactSetOkWrongFalsely : Prop := fnExactSetOkRow.holds Try.pinned (OpenSpec.ofChange fnExactSetOkWrong)

/-- 'laws.FnExactSetSize': WHATEVER THE INPUT: true; the input reads as it did. -/
def fnExactSetSizeSpec : ChangeSpec := { name := "fnExactSetSize", fn := fun _ => fun
  | [d] => { results := [.lit (.bool true)], args := [d] }
  | _ => none }
def fnExactSetSizeRow : OpenClaim := { program := "ythngecooaddddaa", sum := "34a5fca6db5d5f84ca0e33fb7e3b7f7678f4e883e28a6d5d6c9c939202a8d479", func := "loop.example/g00247/laws.FnExactSetSize", spec := "fnExactSetSize", apart := false }
def FnExactSetSizeSaid : Prop := fnExactSetSizeRow.holds Try.pinned (OpenSpec.ofChange fnExactSetSizeSpec)

/-- ITS FALSE NEIGHBOUR: 'it returns false'. Refute it at one input. -/
def fnExactSetSizeWrong : ChangeSpec := { name := "fnExactSetSize", fn := fun _ => fun
  | [d] => { results := [.lit (.bool false)], args := [d] }
  | _ => none }
def FnExactSetSizeWrongFalsely : Prop := fnExactSetSizeRow.holds Try.pinned (OpenSpec.ofChange fnExactSetSizeWrong)

/-- 'laws.FnExactSetJoin': WHATEVER THE INPUT: true; the input reads as it did. -/
def fnExactSetJoinSpec : ChangeSpec := { name := "fnExactSetJoin", fn := fun _ => fun
  | [d1, d2] => { results := [.lit (.bool true)], args := [d1, d2] }
  | _ => none }
def fnExactSetJoinRow : OpenClaim := { program := "ythngecooaddddaa", sum := "34a5fca6db5d5f84ca0e33fb7e3b7f7678f4e883e28a6d5d6c9c939202a8d479", func := "loop.example/g00247/laws.FnExactSetJoin", spec := "fnExactSetJoin", unfollowed := true, recurses := true, apart := false }
def FnExactSetJoinSaid : Prop := fnExactSetJoinRow.holds Try.pinned (OpenSpec.ofChange fnExactSetJoinSpec)

/-- ITS FALSE NEIGHBOUR: 'it returns false'. Refute it at one input. -/
def fnExactSetJoinWrong : ChangeSpec := { name := "fnExactSetJoin", fn := fun _ => fun
  | [d1, d2] => { results := [.lit (.bool false)], args := [d1, d2] }
  | _ => none }
def FnExactSetJoinWrongFalsely : Prop := fnExactSetJoinRow.holds Try.pinned (OpenSpec.ofChange fnExactSetJoinWrong)

/-- 'laws.FnExactSetMeet': WHATEVER THE INPUT: true; the input reads as it did. -/
def fnExactSetMeetSpec : ChangeSpec := { name := "fnExactSetMeet", fn := fun _ => fun
  | [d1, d2] => { results := [.lit (.bool true)], args := [d1, d2] }
  | _ => none }
def fnExactSetMeetRow : OpenClaim := { program := "ythngecooaddddaa", sum := "34a5fca6db5d5f84ca0e33fb7e3b7f7678f4e883e28a6d5d6c9c939202a8d479", func := "loop.example/g00247/laws.FnExactSetMeet", spec := "fnExactSetMeet", unfollowed := true, recurses := true, apart := false }
def FnExactSetMeetSaid : Prop := fnExactSetMeetRow.holds Try.pinned (OpenSpec.ofChange fnExactSetMeetSpec)

/-- ITS FALSE NEIGHBOUR: 'it returns false'. Refute it at one input. -/
def fnExactSetMeetWrong : ChangeSpec := { name := "fnExactSetMeet", fn := fun _ => fun
  | [d1, d2] => { results := [.lit (.bool false)], args := [d1, d2] }
  | _ => none }
def FnExactSetMeetWrongFalsely : Prop := fnExactSetMeetRow.holds Try.pinned (OpenSpec.ofChange fnExactSetMeetWrong)

/-- 'laws.FnExactSetAdd': WHATEVER THE INPUT: true; the input reads as it did. -/
def fnExactSetAddSpec : ChangeSpec := { name := "fnExactSetAdd", fn := fun _ => fun
  | [d1, d2, d3] => { results := [.lit (.bool true)], args := [d1, d2, d3] }
  | _ => none }
def fnExactSetAddRow : OpenClaim := { program := "ythngecooaddddaa", sum := "34a5fca6db5d5f84ca0e33fb7e3b7f7678f4e883e28a6d5d6c9c939202a8d479", func := "loop.example/g00247/laws.FnExactSetAdd", spec := "fnExactSetAdd", unfollowed := true, recurses := true, apart := false }
def FnExactSetAddSaid : Prop := fnExactSetAddRow.holds Try.pinned (OpenSpec.ofChange fnExactSetAddSpec)

/-- ITS FALSE NEIGHBOUR: 'it returns false'. Refute it at one input. -/
def fnExactSetAddWrong : ChangeSpec := { name := "fnExactSetAdd", fn := fun _ => fun
  | [d1, d2, d3] => { results := [.lit (.bool false)], args := [d1, d2, d3] }
  | _ => none }
def FnExactSetAddWrongFalsely : Prop := fnExactSetAddRow.holds Try.pinned (OpenSpec.ofChange fnExactSetAddWrong)

/-- 'laws.FnExactSetDrop': WHATEVER THE INPUT: true; the input reads as it did. -/
def fnExactSetDropSpec : ChangeSpec := { name := "fnExactSetDrop", fn := fun _ => fun
  | [d1, d2, d3] => { results := [.lit (.bool true)], args := [d1, d2, d3] }
  | _ => none }
def fnExactSetDropRow : OpenClaim := { program := "ythngecooaddddaa", sum := "34a5fca6db5d5f84ca0e33fb7e3b7f7678f4e883e28a6d5d6c9c939202a8d479", func := "loop.example/g00247/laws.FnExactSetDrop", spec := "fnExactSetDrop", unfollowed := true, recurses := true, apart := false }
def FnExactSetDropSaid : Prop := fnExactSetDropRow.holds Try.pinned (OpenSpec.ofChange fnExactSetDropSpec)

/-- ITS FALSE NEIGHBOUR: 'it returns false'. Refute it at one input. -/
def fnExactSetDropWrong : ChangeSpec := { name := "fnExactSetDrop", fn := fun _ => fun
  | [d1, d2, d3] => { results := [.lit (.bool false)], args := [d1, d2, d3] }
  | _ => none }
def FnExactSetDropWrongFalsely : Prop := fnExactSetDropRow.holds Try.pinned (OpenSpec.ofChange fnExactSetDropWrong)

/-- 'laws.FnTwoSets': WHATEVER THE INPUT: true; the input reads as it did. -/
def fnTwoSetsSpec : ChangeSpec := { name := "fnTwoSets", fn := fun _ => fun
  | [d] => { results := [.lit (.bool true)], args := [d] }
  | _ => none }
def fnTwoSetsRow : OpenClaim := { program := "ythngecooaddddaa", sum := "34a5fca6db5d5f84ca0e33fb7e3b7f7678f4e883e28a6d5d6c9c939202a8d479", func := "loop.example/g00247/laws.FnTwoSets", spec := "fnTwoSets", unfollowed := true, recurses := true, apart := false }
def FnTwoSetsSaid : Prop := fnTwoSetsRow.holds Try.pinned (OpenSpec.ofChange fnTwoSetsSpec)

/-- ITS FALSE NEIGHBOUR: 'it returns false'. Refute it at one input. -/
def fnTwoSetsWrong : ChangeSpec := { name := "fnTwoSets", fn := fun _ => fun
  | [d] => { results := [.lit (.bool false)], args := [d] }
  | _ => none }
def FnTwoSetsWrongFalsely : Prop := fnTwoSetsRow.holds Try.pinned (OpenSpec.ofChange fnTwoSetsWrong)

/-- 'laws.FnSets': WHATEVER THE INPUT: true; the input reads as it did. -/
def fnSetsSpec : ChangeSpec := { name := "fnSets", fn := fun _ => fun
  | [d] => { results := [.lit (.bool true)], args := [d] }
  | _ => none }
def fnSetsRow : OpenClaim := { program := "ythngecooaddddaa", sum := "34a5fca6db5d5f84ca0e33fb7e3b7f7678f4e883e28a6d5d6c9c939202a8d479", func := "loop.example/g00247/laws.FnSets", spec := "fnSets", unfollowed := true, recurses := true, apart := false }
def FnSetsSaid : Prop := fnSetsRow.holds Try.pinned (OpenSpec.ofChange fnSetsSpec)

/-- ITS FALSE NEIGHBOUR: 'it returns false'. Refute it at one input. -/
def fnSetsWrong : ChangeSpec := { name := "fnSets", fn := fun _ => fun
  | [d] => { results := [.lit (.bool false)], args := [d] }
  | _ => none }
def FnSetsWrongFalsely : Prop := fnSetsRow.holds Try.pinned (OpenSpec.ofChange fnSetsWrong)

/- THE SECOND FORM. 'bulk': how many values and letters a reading holds, each counted each time it is reached (what is shared counts as often as it is met; a slice's spare places count too). A statement '..UptoSaid' is the law's where the arguments, and the package variables that the reading takes, are together of bulk at most 1048576: NARROWER than '..Said'. Prove '..Said' where nothing that the law and all that it calls make is longer than what came in: it says more and counts as full. Else prove '..UptoSaid'. A law counts once. -/
mutual
def uptoBulk {H : Type} : DataW H → Nat
  | .lit (.string bytes) => bytes.length + 1
  | .lit _ => 1
  | .nil => 1
  | .ptr d => uptoBulk d + 1
  | .slice elems spare => uptoBulkAll elems + uptoBulkAll spare + 1
  | .agg parts => uptoBulkAll parts + 1
  | .iface _ d => uptoBulk d + 1
  | .map entries => uptoBulkEntries entries + 1
  | .held _ => 1
def uptoBulkAll {H : Type} : List (DataW H) → Nat
  | [] => 0
  | d :: r => uptoBulk d + uptoBulkAll r
def uptoBulkEntries {H : Type} : List (Lit × DataW H) → Nat
  | [] => 0
  | x :: r => uptoBulkEntry x + uptoBulkEntries r
def uptoBulkEntry {H : Type} : Lit × DataW H → Nat
  | (.string bytes, d) => bytes.length + uptoBulk d + 1
  | (_, d) => uptoBulk d + 1
 end
def uptoSmall : (H : Type) → List (DataW H) → Bool := fun _ ds => decide (uptoBulkAll ds ≤ 1048576)
def OpenSpec.upto (s : _root_.Go.ChangeSpec) : _root_.Go.OpenSpec := { _root_.Go.OpenSpec.ofChange s with cond := some uptoSmall }

/-- 'laws.FnExactSetHas', WHERE WHAT IT READS IS OF BULK AT MOST 1048576: true; the input reads as it did. -/
def fnExactSetHasUptoRow : OpenClaim := { program := "ythngecooaddddaa", sum := "34a5fca6db5d5f84ca0e33fb7e3b7f7678f4e883e28a6d5d6c9c939202a8d479", func := "loop.example/g00247/laws.FnExactSetHas", spec := "fnExactSetHas", apart := false, narrowed := true }
def FnExactSetHasUptoSaid : Prop := fnExactSetHasUptoRow.holds Try.pinned (OpenSpec.upto fnExactSetHasSpec)

/-- 'laws.FnExactSetOk', WHERE WHAT IT READS IS OF BULK AT MOST 1048576: true; the input reads as it did. -/
def fnExactSetOkUptoRow : OpenClaim := { program := "ythngecooaddddaa", sum := "34a5fca6db5d5f84ca0e33fb7e3b7f7678f4e883e28a6d5d6c9c939202a8d479", func := "loop.example/g00247/laws.FnExactSetOk", spec := "fnExactSetOk", apart := false, narrowed := true }
def FnExactSetOkUptoSaid : Prop := fnExactSetOkUptoRow.holds Try.pinned (OpenSpec.upto fnExactSetOkSpec)

/-- 'laws.FnExactSetSize', WHERE WHAT IT READS IS OF BULK AT MOST 1048576: true; the input reads as it did. -/
def fnExactSetSizeUptoRow : OpenClaim := { program := "ythngecooaddddaa", sum := "34a5fca6db5d5f84ca0e33fb7e3b7f7678f4e883e28a6d5d6c9c939202a8d479", func := "loop.example/g00247/laws.FnExactSetSize", spec := "fnExactSetSize", apart := false, narrowed := true }
def FnExactSetSizeUptoSaid : Prop := fnExactSetSizeUptoRow.holds Try.pinned (OpenSpec.upto fnExactSetSizeSpec)

/-- 'laws.FnExactSetJoin', WHERE WHAT IT READS IS OF BULK AT MOST 1048576: true; the input reads as it did. -/
def fnExactSetJoinUptoRow : OpenClaim := { program := "ythngecooaddddaa", sum := "34a5fca6db5d5f84ca0e33fb7e3b7f7678f4e883e28a6d5d6c9c939202a8d479", func := "loop.example/g00247/laws.FnExactSetJoin", spec := "fnExactSetJoin", unfollowed := true, recurses := true, apart := false, narrowed := true }
def FnExactSetJoinUptoSaid : Prop := fnExactSetJoinUptoRow.holds Try.pinned (OpenSpec.upto fnExactSetJoinSpec)

/-- 'laws.FnExactSetMeet', WHERE WHAT IT READS IS OF BULK AT MOST 1048576: true; the input reads as it did. -/
def fnExactSetMeetUptoRow : OpenClaim := { program := "ythngecooaddddaa", sum := "34a5fca6db5d5f84ca0e33fb7e3b7f7678f4e883e28a6d5d6c9c939202a8d479", func := "loop.example/g00247/laws.FnExactSetMeet", spec := "fnExactSetMeet", unfollowed := true, recurses := true, apart := false, narrowed := true }
def FnExactSetMeetUptoSaid : Prop := fnExactSetMeetUptoRow.holds Try.pinned (OpenSpec.upto fnExactSetMeetSpec)

/-- 'laws.FnExactSetAdd', WHERE WHAT IT READS IS OF BULK AT MOST 1048576: true; the input reads as it did. -/
def fnExactSetAddUptoRow : OpenClaim := { program := "ythngecooaddddaa", sum := "34a5fca6db5d5f84ca0e33fb7e3b7f7678f4e883e28a6d5d6c9c939202a8d479", func := "loop.example/g00247/laws.FnExactSetAdd", spec := "fnExactSetAdd", unfollowed := true, recurses := true, apart := false, narrowed := true }
def FnExactSetAddUptoSaid : Prop := fnExactSetAddUptoRow.holds Try.pinned (OpenSpec.upto fnExactSetAddSpec)

/-- 'laws.FnExactSetDrop', WHERE WHAT IT READS IS OF BULK AT MOST 1048576: true; the input reads as it did. -/
def fnExactSetDropUptoRow : OpenClaim := { program := "ythngecooaddddaa", sum := "34a5fca6db5d5f84ca0e33fb7e3b7f7678f4e883e28a6d5d6c9c939202a8d479", func := "loop.example/g00247/laws.FnExactSetDrop", spec := "fnExactSetDrop", unfollowed := true, recurses := true, apart := false, narrowed := true }
def FnExactSetDropUptoSaid : Prop := fnExactSetDropUptoRow.holds Try.pinned (OpenSpec.upto fnExactSetDropSpec)

/-- 'laws.FnTwoSets', WHERE WHAT IT READS IS OF BULK AT MOST 1048576: true; the input reads as it did. -/
def fnTwoSetsUptoRow : OpenClaim := { program := "ythngecooaddddaa", sum := "34a5fca6db5d5f84ca0e33fb7e3b7f7678f4e883e28a6d5d6c9c939202a8d479", func := "loop.example/g00247/laws.FnTwoSets", spec := "fnTwoSets", unfollowed := true, recurses := true, apart := false, narrowed := true }
def FnTwoSetsUptoSaid : Prop := fnTwoSetsUptoRow.holds Try.pinned (OpenSpec.upto fnTwoSetsSpec)

/-- 'laws.FnSets', WHERE WHAT IT READS IS OF BULK AT MOST 1048576: true; the input reads as it did. -/
def fnSetsUptoRow : OpenClaim := { program := "ythngecooaddddaa", sum := "34a5fca6db5d5f84ca0e33fb7e3b7f7678f4e883e28a6d5d6c9c939202a8d479", func := "loop.example/g00247/laws.FnSets", spec := "fnSets", unfollowed := true, recurses := true, apart := false, narrowed := true }
def FnSetsUptoSaid : Prop := fnSetsUptoRow.holds Try.pinned (OpenSpec.upto fnSetsSpec)

end Rows
end Go.Proofs.Ythngecooaddddaa
