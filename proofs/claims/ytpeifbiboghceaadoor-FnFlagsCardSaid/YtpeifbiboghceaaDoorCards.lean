/-
  DERIVED. GIVEN WITH THE SEED: THE CARDS: each row of YtpeifbiboghceaaDoorRows.lean that lists a variable, with what it lists TIED to the program's text (the seventh form; the later family's looks); each row that meets fmt, with fmt's text TOLD by the authors' own Lean function (tested against real Go, not proved from fmt's source: count such statements apart). THE CARD IS WHAT COUNTS. Prove the row's statement (the work); the ties are given (YtpeifbiboghceaaDoorTie.lean); close each card by the builder's one call (the guide's Derived/Test/ToyasCard.lean, 'card_holds'). Laid BY PROGRAM, IN A SANDBOX (cutbox-door.mjs). By AI agents, Wed Nov 11 2026. No macro, syntax, notation, axiom, sorry.
-/
import Derived.Test.YtpeifbiboghceaaDoorRows
import GoSem.ClaimSeven
namespace Go.Proofs.YtpeifbiboghceaaDoor
namespace Rows

/-- THE TIED CARD OF 'laws.FnExactReadFlags'. -/
def fnExactReadFlagsCard : Claim7 := { stood := { row := fnExactReadFlagsRow, standIns := [], harness := (true, "1adc2a7260c90d62e2826b75fa4e188d51506e62590dd36b33953282283963be"), looks := false }, kinds := [], alts := [], laidByText := true, laidKinds := [.data, .pinned], laidTests := true, laidLooks := .later }
def FnExactReadFlagsCardSaid : Prop := Claim7.holds Tryd.pinned (.plain (OpenSpec.ofChange fnExactReadFlagsSpec)) fnExactReadFlagsCard

/-- THE TIED CARD OF 'laws.FnFlags'. -/
def fnFlagsCard : Claim7 := { stood := { row := fnFlagsRow, standIns := [], harness := (true, "1adc2a7260c90d62e2826b75fa4e188d51506e62590dd36b33953282283963be"), looks := false }, kinds := [], alts := [], laidByText := true, laidKinds := [.data, .pinned], laidTests := true, laidLooks := .later }
def FnFlagsCardSaid : Prop := Claim7.holds Tryd.pinned (.plain (OpenSpec.ofChange fnFlagsSpec)) fnFlagsCard

/-- THE SECOND FORM's CARD OF 'laws.FnExactReadFlags'. -/
def fnExactReadFlagsUptoCard : Claim7 := { stood := { row := fnExactReadFlagsUptoRow, standIns := [], harness := (true, "1adc2a7260c90d62e2826b75fa4e188d51506e62590dd36b33953282283963be"), looks := false }, kinds := [], alts := [], laidByText := true, laidKinds := [.data, .pinned], laidTests := true, laidLooks := .later }
def FnExactReadFlagsUptoCardSaid : Prop := Claim7.holds Tryd.pinned (.plain (OpenSpec.upto fnExactReadFlagsSpec)) fnExactReadFlagsUptoCard

/-- THE SECOND FORM's CARD OF 'laws.FnFlags'. -/
def fnFlagsUptoCard : Claim7 := { stood := { row := fnFlagsUptoRow, standIns := [], harness := (true, "1adc2a7260c90d62e2826b75fa4e188d51506e62590dd36b33953282283963be"), looks := false }, kinds := [], alts := [], laidByText := true, laidKinds := [.data, .pinned], laidTests := true, laidLooks := .later }
def FnFlagsUptoCardSaid : Prop := Claim7.holds Tryd.pinned (.plain (OpenSpec.upto fnFlagsSpec)) fnFlagsUptoCard
end Rows
end Go.Proofs.YtpeifbiboghceaaDoor
