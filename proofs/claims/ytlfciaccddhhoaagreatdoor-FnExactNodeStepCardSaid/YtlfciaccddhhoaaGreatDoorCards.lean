/-
  DERIVED. GIVEN WITH THE SEED: THE CARDS: each row of YtlfciaccddhhoaaGreatDoorRows.lean that lists a variable, with what it lists TIED to the program's text (the seventh form; the later family's looks); each row that meets fmt, with fmt's text TOLD by the authors' own Lean function (tested against real Go, not proved from fmt's source: count such statements apart). THE CARD IS WHAT COUNTS. Prove the row's statement (the work); the ties are given (YtlfciaccddhhoaaGreatDoorTie.lean); close each card by the builder's one call (the guide's Derived/Test/ToyasCard.lean, 'card_holds'). Laid BY PROGRAM, IN A SANDBOX (cutbox-door.mjs). By AI agents, Wed Nov 11 2026. No macro, syntax, notation, axiom, sorry.
-/
import Derived.Test.YtlfciaccddhhoaaGreatDoorRows
import GoSem.ClaimSeven
namespace Go.Proofs.YtlfciaccddhhoaaGreatDoor
namespace Rows

/-- THE TIED CARD OF 'laws.FnExactNodeLoad'. -/
def fnExactNodeLoadCard : Claim7 := { stood := { row := fnExactNodeLoadRow, standIns := [], harness := (true, "b3b594909e55716b480d55218aa457eb1f62f3c826dfe098122779ea40fc71f3"), looks := false }, kinds := [], alts := [], laidByText := true, laidKinds := [.data, .pinned], laidTests := true, laidLooks := .later }
def FnExactNodeLoadCardSaid : Prop := Claim7.holds Tryz.pinned (.plain (OpenSpec.ofChange fnExactNodeLoadSpec)) fnExactNodeLoadCard

/-- THE TIED CARD OF 'laws.FnExactNodePhase'. -/
def fnExactNodePhaseCard : Claim7 := { stood := { row := fnExactNodePhaseRow, standIns := [], harness := (true, "b3b594909e55716b480d55218aa457eb1f62f3c826dfe098122779ea40fc71f3"), looks := false }, kinds := [], alts := [], laidByText := true, laidKinds := [.data, .pinned], laidTests := true, laidLooks := .later }
def FnExactNodePhaseCardSaid : Prop := Claim7.holds Tryz.pinned (.plain (OpenSpec.ofChange fnExactNodePhaseSpec)) fnExactNodePhaseCard

/-- THE TIED CARD OF 'laws.FnExactNodeDel'. -/
def fnExactNodeDelCard : Claim7 := { stood := { row := fnExactNodeDelRow, standIns := [], harness := (true, "b3b594909e55716b480d55218aa457eb1f62f3c826dfe098122779ea40fc71f3"), looks := false }, kinds := [], alts := [], laidByText := true, laidKinds := [.data, .pinned], laidTests := true, laidLooks := .later }
def FnExactNodeDelCardSaid : Prop := Claim7.holds Tryz.pinned (.plain (OpenSpec.ofChange fnExactNodeDelSpec)) fnExactNodeDelCard

/-- THE TIED CARD OF 'laws.FnExactNodePut'. -/
def fnExactNodePutCard : Claim7 := { stood := { row := fnExactNodePutRow, standIns := [], harness := (true, "b3b594909e55716b480d55218aa457eb1f62f3c826dfe098122779ea40fc71f3"), looks := false }, kinds := [], alts := [], laidByText := true, laidKinds := [.data, .pinned], laidTests := true, laidLooks := .later }
def FnExactNodePutCardSaid : Prop := Claim7.holds Tryz.pinned (.plain (OpenSpec.ofChange fnExactNodePutSpec)) fnExactNodePutCard

/-- THE TIED CARD OF 'laws.FnExactNodeStep'. -/
def fnExactNodeStepCard : Claim7 := { stood := { row := fnExactNodeStepRow, standIns := [], harness := (true, "b3b594909e55716b480d55218aa457eb1f62f3c826dfe098122779ea40fc71f3"), looks := false }, kinds := [], alts := [], laidByText := true, laidKinds := [.data, .pinned], laidTests := true, laidLooks := .later }
def FnExactNodeStepCardSaid : Prop := Claim7.holds Tryz.pinned (.plain (OpenSpec.ofChange fnExactNodeStepSpec)) fnExactNodeStepCard

/-- THE SECOND FORM's CARD OF 'laws.FnExactNodeLoad'. -/
def fnExactNodeLoadUptoCard : Claim7 := { stood := { row := fnExactNodeLoadUptoRow, standIns := [], harness := (true, "b3b594909e55716b480d55218aa457eb1f62f3c826dfe098122779ea40fc71f3"), looks := false }, kinds := [], alts := [], laidByText := true, laidKinds := [.data, .pinned], laidTests := true, laidLooks := .later }
def FnExactNodeLoadUptoCardSaid : Prop := Claim7.holds Tryz.pinned (.plain (OpenSpec.upto fnExactNodeLoadSpec)) fnExactNodeLoadUptoCard

/-- THE SECOND FORM's CARD OF 'laws.FnExactNodePhase'. -/
def fnExactNodePhaseUptoCard : Claim7 := { stood := { row := fnExactNodePhaseUptoRow, standIns := [], harness := (true, "b3b594909e55716b480d55218aa457eb1f62f3c826dfe098122779ea40fc71f3"), looks := false }, kinds := [], alts := [], laidByText := true, laidKinds := [.data, .pinned], laidTests := true, laidLooks := .later }
def FnExactNodePhaseUptoCardSaid : Prop := Claim7.holds Tryz.pinned (.plain (OpenSpec.upto fnExactNodePhaseSpec)) fnExactNodePhaseUptoCard

/-- THE SECOND FORM's CARD OF 'laws.FnExactNodeDel'. -/
def fnExactNodeDelUptoCard : Claim7 := { stood := { row := fnExactNodeDelUptoRow, standIns := [], harness := (true, "b3b594909e55716b480d55218aa457eb1f62f3c826dfe098122779ea40fc71f3"), looks := false }, kinds := [], alts := [], laidByText := true, laidKinds := [.data, .pinned], laidTests := true, laidLooks := .later }
def FnExactNodeDelUptoCardSaid : Prop := Claim7.holds Tryz.pinned (.plain (OpenSpec.upto fnExactNodeDelSpec)) fnExactNodeDelUptoCard

/-- THE SECOND FORM's CARD OF 'laws.FnExactNodePut'. -/
def fnExactNodePutUptoCard : Claim7 := { stood := { row := fnExactNodePutUptoRow, standIns := [], harness := (true, "b3b594909e55716b480d55218aa457eb1f62f3c826dfe098122779ea40fc71f3"), looks := false }, kinds := [], alts := [], laidByText := true, laidKinds := [.data, .pinned], laidTests := true, laidLooks := .later }
def FnExactNodePutUptoCardSaid : Prop := Claim7.holds Tryz.pinned (.plain (OpenSpec.upto fnExactNodePutSpec)) fnExactNodePutUptoCard

/-- THE SECOND FORM's CARD OF 'laws.FnExactNodeStep'. -/
def fnExactNodeStepUptoCard : Claim7 := { stood := { row := fnExactNodeStepUptoRow, standIns := [], harness := (true, "b3b594909e55716b480d55218aa457eb1f62f3c826dfe098122779ea40fc71f3"), looks := false }, kinds := [], alts := [], laidByText := true, laidKinds := [.data, .pinned], laidTests := true, laidLooks := .later }
def FnExactNodeStepUptoCardSaid : Prop := Claim7.holds Tryz.pinned (.plain (OpenSpec.upto fnExactNodeStepSpec)) fnExactNodeStepUptoCard
end Rows
end Go.Proofs.YtlfciaccddhhoaaGreatDoor
