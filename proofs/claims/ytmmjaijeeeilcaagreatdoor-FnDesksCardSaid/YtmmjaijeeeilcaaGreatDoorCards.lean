/-
  DERIVED. GIVEN WITH THE SEED: THE CARDS: each row of YtmmjaijeeeilcaaGreatDoorRows.lean that lists a variable, with what it lists TIED to the program's text (the seventh form; the later family's looks); each row that meets fmt, with fmt's text TOLD by the authors' own Lean function (tested against real Go, not proved from fmt's source: count such statements apart). THE CARD IS WHAT COUNTS. Prove the row's statement (the work); the ties are given (YtmmjaijeeeilcaaGreatDoorTie.lean); close each card by the builder's one call (the guide's Derived/Test/ToyasCard.lean, 'card_holds'). Laid BY PROGRAM, IN A SANDBOX (cutbox-door.mjs). By AI agents, Wed Nov 11 2026. No macro, syntax, notation, axiom, sorry.
-/
import Derived.Test.YtmmjaijeeeilcaaGreatDoorRows
import GoSem.ClaimSeven
namespace Go.Proofs.YtmmjaijeeeilcaaGreatDoor
namespace Rows

/-- THE TIED CARD OF 'laws.FnDesks'. -/
def fnDesksCard : Claim7 := { stood := { row := fnDesksRow, standIns := [], harness := (true, "131d098efb71306048f1ef8c79cd4689f47ef742a04ae5d63789172bb7873206"), looks := false }, kinds := [], alts := [], laidByText := true, laidKinds := [.data, .pinned], laidTests := true, laidLooks := .later }
def FnDesksCardSaid : Prop := Claim7.holds Tryz.pinned (.plain (OpenSpec.ofChange fnDesksSpec)) fnDesksCard

/-- THE TIED CARD OF 'laws.FnSteps'. -/
def fnStepsCard : Claim7 := { stood := { row := fnStepsRow, standIns := [], harness := (true, "131d098efb71306048f1ef8c79cd4689f47ef742a04ae5d63789172bb7873206"), looks := false }, kinds := [], alts := [], laidByText := true, laidKinds := [.data, .pinned], laidTests := true, laidLooks := .later }
def FnStepsCardSaid : Prop := Claim7.holds Tryz.pinned (.plain (OpenSpec.ofChange fnStepsSpec)) fnStepsCard

/-- THE TIED CARD OF 'laws.FnNodes'. -/
def fnNodesCard : Claim7 := { stood := { row := fnNodesRow, standIns := [], harness := (true, "131d098efb71306048f1ef8c79cd4689f47ef742a04ae5d63789172bb7873206"), looks := false }, kinds := [], alts := [], laidByText := true, laidKinds := [.data, .pinned], laidTests := true, laidLooks := .later }
def FnNodesCardSaid : Prop := Claim7.holds Tryz.pinned (.plain (OpenSpec.ofChange fnNodesSpec)) fnNodesCard

/-- THE TIED CARD OF 'laws.FnNodesBent'. -/
def fnNodesBentCard : Claim7 := { stood := { row := fnNodesBentRow, standIns := [], harness := (true, "131d098efb71306048f1ef8c79cd4689f47ef742a04ae5d63789172bb7873206"), looks := false }, kinds := [], alts := [], laidByText := true, laidKinds := [.data, .pinned], laidTests := true, laidLooks := .later }
def FnNodesBentCardSaid : Prop := Claim7.holds Tryz.pinned (.plain (OpenSpec.ofChange fnNodesBentSpec)) fnNodesBentCard

/-- THE TIED CARD OF 'laws.FnExactTexts'. -/
def fnExactTextsCard : Claim7 := { stood := { row := fnExactTextsRow, standIns := [], harness := (true, "131d098efb71306048f1ef8c79cd4689f47ef742a04ae5d63789172bb7873206"), looks := false }, kinds := [], alts := [], laidByText := true, laidKinds := [.data, .pinned], laidTests := true, laidLooks := .later }
def FnExactTextsCardSaid : Prop := Claim7.holds Tryz.pinned (.plain (OpenSpec.ofChange fnExactTextsSpec)) fnExactTextsCard

/-- THE TIED CARD OF 'laws.FnExactWorldNew'. -/
def fnExactWorldNewCard : Claim7 := { stood := { row := fnExactWorldNewRow, standIns := [], harness := (true, "131d098efb71306048f1ef8c79cd4689f47ef742a04ae5d63789172bb7873206"), looks := false }, kinds := [], alts := [], laidByText := true, laidKinds := [.data, .pinned], laidTests := true, laidLooks := .later }
def FnExactWorldNewCardSaid : Prop := Claim7.holds Tryz.pinned (.plain (OpenSpec.ofChange fnExactWorldNewSpec)) fnExactWorldNewCard

/-- THE SECOND FORM's CARD OF 'laws.FnDesks'. -/
def fnDesksUptoCard : Claim7 := { stood := { row := fnDesksUptoRow, standIns := [], harness := (true, "131d098efb71306048f1ef8c79cd4689f47ef742a04ae5d63789172bb7873206"), looks := false }, kinds := [], alts := [], laidByText := true, laidKinds := [.data, .pinned], laidTests := true, laidLooks := .later }
def FnDesksUptoCardSaid : Prop := Claim7.holds Tryz.pinned (.plain (OpenSpec.upto fnDesksSpec)) fnDesksUptoCard

/-- THE SECOND FORM's CARD OF 'laws.FnSteps'. -/
def fnStepsUptoCard : Claim7 := { stood := { row := fnStepsUptoRow, standIns := [], harness := (true, "131d098efb71306048f1ef8c79cd4689f47ef742a04ae5d63789172bb7873206"), looks := false }, kinds := [], alts := [], laidByText := true, laidKinds := [.data, .pinned], laidTests := true, laidLooks := .later }
def FnStepsUptoCardSaid : Prop := Claim7.holds Tryz.pinned (.plain (OpenSpec.upto fnStepsSpec)) fnStepsUptoCard

/-- THE SECOND FORM's CARD OF 'laws.FnNodes'. -/
def fnNodesUptoCard : Claim7 := { stood := { row := fnNodesUptoRow, standIns := [], harness := (true, "131d098efb71306048f1ef8c79cd4689f47ef742a04ae5d63789172bb7873206"), looks := false }, kinds := [], alts := [], laidByText := true, laidKinds := [.data, .pinned], laidTests := true, laidLooks := .later }
def FnNodesUptoCardSaid : Prop := Claim7.holds Tryz.pinned (.plain (OpenSpec.upto fnNodesSpec)) fnNodesUptoCard

/-- THE SECOND FORM's CARD OF 'laws.FnNodesBent'. -/
def fnNodesBentUptoCard : Claim7 := { stood := { row := fnNodesBentUptoRow, standIns := [], harness := (true, "131d098efb71306048f1ef8c79cd4689f47ef742a04ae5d63789172bb7873206"), looks := false }, kinds := [], alts := [], laidByText := true, laidKinds := [.data, .pinned], laidTests := true, laidLooks := .later }
def FnNodesBentUptoCardSaid : Prop := Claim7.holds Tryz.pinned (.plain (OpenSpec.upto fnNodesBentSpec)) fnNodesBentUptoCard

/-- THE SECOND FORM's CARD OF 'laws.FnExactTexts'. -/
def fnExactTextsUptoCard : Claim7 := { stood := { row := fnExactTextsUptoRow, standIns := [], harness := (true, "131d098efb71306048f1ef8c79cd4689f47ef742a04ae5d63789172bb7873206"), looks := false }, kinds := [], alts := [], laidByText := true, laidKinds := [.data, .pinned], laidTests := true, laidLooks := .later }
def FnExactTextsUptoCardSaid : Prop := Claim7.holds Tryz.pinned (.plain (OpenSpec.upto fnExactTextsSpec)) fnExactTextsUptoCard

/-- THE SECOND FORM's CARD OF 'laws.FnExactWorldNew'. -/
def fnExactWorldNewUptoCard : Claim7 := { stood := { row := fnExactWorldNewUptoRow, standIns := [], harness := (true, "131d098efb71306048f1ef8c79cd4689f47ef742a04ae5d63789172bb7873206"), looks := false }, kinds := [], alts := [], laidByText := true, laidKinds := [.data, .pinned], laidTests := true, laidLooks := .later }
def FnExactWorldNewUptoCardSaid : Prop := Claim7.holds Tryz.pinned (.plain (OpenSpec.upto fnExactWorldNewSpec)) fnExactWorldNewUptoCard
end Rows
end Go.Proofs.YtmmjaijeeeilcaaGreatDoor
