/-
  DERIVED. GIVEN WITH THE SEED: THE CARDS: each row of YthngecooaddddaaDoorRows.lean that lists a variable, with what it lists TIED to the program's text (the seventh form; the later family's looks); each row that meets fmt, with fmt's text TOLD by the authors' own Lean function (tested against real Go, not proved from fmt's source: count such statements apart). THE CARD IS WHAT COUNTS. Prove the row's statement (the work); the ties are given (YthngecooaddddaaDoorTie.lean); close each card by the builder's one call (the guide's Derived/Test/ToyasCard.lean, 'card_holds'). Laid BY PROGRAM, IN A SANDBOX (cutbox-door.mjs). By AI agents, Wed Nov 11 2026. No macro, syntax, notation, axiom, sorry.
-/
import Derived.Test.YthngecooaddddaaDoorRows
import GoSem.ClaimSeven
namespace Go.Proofs.YthngecooaddddaaDoor
namespace Rows

/-- THE TIED CARD OF 'laws.FnSetsTold'. -/
def fnSetsToldCard : Claim7 := { stood := { row := fnSetsToldRow, standIns := [], harness := (true, "9382f37463ca26742d98e8ebf039d7a23c1b9a2218202b57dc07b706893cd641"), looks := false }, kinds := [], alts := [], laidByText := true, laidKinds := [.data, .pinned], laidTests := true, laidLooks := .later }
def FnSetsToldCardSaid : Prop := Claim7.holds Tryd.pinned (.plain (OpenSpec.ofChange fnSetsToldSpec)) fnSetsToldCard

/-- THE TIED CARD OF 'laws.FnSetTexts'. -/
def fnSetTextsCard : Claim7 := { stood := { row := fnSetTextsRow, standIns := [], harness := (true, "9382f37463ca26742d98e8ebf039d7a23c1b9a2218202b57dc07b706893cd641"), looks := false }, kinds := [], alts := [], laidByText := true, laidKinds := [.data, .data, .data, .data, .pinned], laidTests := true, laidLooks := .later }
def FnSetTextsCardSaid : Prop := Claim7.holds Tryd.pinned (.plain (OpenSpec.ofChange fnSetTextsSpec)) fnSetTextsCard

/-- THE TIED CARD OF 'laws.FnExactSetText'. -/
def fnExactSetTextCard : Claim7 := { stood := { row := fnExactSetTextRow, standIns := [], harness := (true, "9382f37463ca26742d98e8ebf039d7a23c1b9a2218202b57dc07b706893cd641"), looks := false }, kinds := [], alts := [], laidByText := true, laidKinds := [.data, .data, .data], laidTests := true, laidLooks := .later }
def FnExactSetTextCardSaid : Prop := Claim7.holds Tryd.pinned (.plain (OpenSpec.ofChange fnExactSetTextSpec)) fnExactSetTextCard

/-- THE TIED CARD OF 'laws.FnExactReadSet'. -/
def fnExactReadSetCard : Claim7 := { stood := { row := fnExactReadSetRow, standIns := [], harness := (true, "9382f37463ca26742d98e8ebf039d7a23c1b9a2218202b57dc07b706893cd641"), looks := false }, kinds := [], alts := [], laidByText := true, laidKinds := [.data, .pinned], laidTests := true, laidLooks := .later }
def FnExactReadSetCardSaid : Prop := Claim7.holds Tryd.pinned (.plain (OpenSpec.ofChange fnExactReadSetSpec)) fnExactReadSetCard

/-- THE SECOND FORM's CARD OF 'laws.FnSetsTold'. -/
def fnSetsToldUptoCard : Claim7 := { stood := { row := fnSetsToldUptoRow, standIns := [], harness := (true, "9382f37463ca26742d98e8ebf039d7a23c1b9a2218202b57dc07b706893cd641"), looks := false }, kinds := [], alts := [], laidByText := true, laidKinds := [.data, .pinned], laidTests := true, laidLooks := .later }
def FnSetsToldUptoCardSaid : Prop := Claim7.holds Tryd.pinned (.plain (OpenSpec.upto fnSetsToldSpec)) fnSetsToldUptoCard

/-- THE SECOND FORM's CARD OF 'laws.FnSetTexts'. -/
def fnSetTextsUptoCard : Claim7 := { stood := { row := fnSetTextsUptoRow, standIns := [], harness := (true, "9382f37463ca26742d98e8ebf039d7a23c1b9a2218202b57dc07b706893cd641"), looks := false }, kinds := [], alts := [], laidByText := true, laidKinds := [.data, .data, .data, .data, .pinned], laidTests := true, laidLooks := .later }
def FnSetTextsUptoCardSaid : Prop := Claim7.holds Tryd.pinned (.plain (OpenSpec.upto fnSetTextsSpec)) fnSetTextsUptoCard

/-- THE SECOND FORM's CARD OF 'laws.FnExactSetText'. -/
def fnExactSetTextUptoCard : Claim7 := { stood := { row := fnExactSetTextUptoRow, standIns := [], harness := (true, "9382f37463ca26742d98e8ebf039d7a23c1b9a2218202b57dc07b706893cd641"), looks := false }, kinds := [], alts := [], laidByText := true, laidKinds := [.data, .data, .data], laidTests := true, laidLooks := .later }
def FnExactSetTextUptoCardSaid : Prop := Claim7.holds Tryd.pinned (.plain (OpenSpec.upto fnExactSetTextSpec)) fnExactSetTextUptoCard

/-- THE SECOND FORM's CARD OF 'laws.FnExactReadSet'. -/
def fnExactReadSetUptoCard : Claim7 := { stood := { row := fnExactReadSetUptoRow, standIns := [], harness := (true, "9382f37463ca26742d98e8ebf039d7a23c1b9a2218202b57dc07b706893cd641"), looks := false }, kinds := [], alts := [], laidByText := true, laidKinds := [.data, .pinned], laidTests := true, laidLooks := .later }
def FnExactReadSetUptoCardSaid : Prop := Claim7.holds Tryd.pinned (.plain (OpenSpec.upto fnExactReadSetSpec)) fnExactReadSetUptoCard
end Rows
end Go.Proofs.YthngecooaddddaaDoor
