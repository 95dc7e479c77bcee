/-
  DERIVED. GIVEN WITH THE SEED: THE CARDS: each row of YtfmkpckoghbniaaGreatDoorRows.lean that lists a variable, with what it lists TIED to the program's text (the seventh form; the later family's looks); each row that meets fmt, with fmt's text TOLD by the authors' own Lean function (tested against real Go, not proved from fmt's source: count such statements apart). THE CARD IS WHAT COUNTS. Prove the row's statement (the work); the ties are given (YtfmkpckoghbniaaGreatDoorTie.lean); close each card by the builder's one call (the guide's Derived/Test/ToyasCard.lean, 'card_holds'). Laid BY PROGRAM, IN A SANDBOX (cutbox-door.mjs). By AI agents, Wed Nov 11 2026. No macro, syntax, notation, axiom, sorry.
-/
import Derived.Test.YtfmkpckoghbniaaGreatDoorRows
import GoSem.ClaimSeven
namespace Go.Proofs.YtfmkpckoghbniaaGreatDoor
namespace Rows

/-- THE TIED CARD OF 'laws.FnExactNodeGet'. -/
def fnExactNodeGetCard : Claim7 := { stood := { row := fnExactNodeGetRow, standIns := [], harness := (true, "06f50079864d546ae03bcbcc0355e6d64698c22a9b01a2fe24709e12d5274368"), looks := false }, kinds := [], alts := [], laidByText := true, laidKinds := [.data, .pinned], laidTests := true, laidLooks := .later }
def FnExactNodeGetCardSaid : Prop := Claim7.holds Tryz.pinned (.plain (OpenSpec.ofChange fnExactNodeGetSpec)) fnExactNodeGetCard

/-- THE TIED CARD OF 'laws.FnExactNodeNew'. -/
def fnExactNodeNewCard : Claim7 := { stood := { row := fnExactNodeNewRow, standIns := [], harness := (true, "06f50079864d546ae03bcbcc0355e6d64698c22a9b01a2fe24709e12d5274368"), looks := false }, kinds := [], alts := [], laidByText := true, laidKinds := [.data, .pinned], laidTests := true, laidLooks := .later }
def FnExactNodeNewCardSaid : Prop := Claim7.holds Tryz.pinned (.plain (OpenSpec.ofChange fnExactNodeNewSpec)) fnExactNodeNewCard

/-- THE SECOND FORM's CARD OF 'laws.FnExactNodeGet'. -/
def fnExactNodeGetUptoCard : Claim7 := { stood := { row := fnExactNodeGetUptoRow, standIns := [], harness := (true, "06f50079864d546ae03bcbcc0355e6d64698c22a9b01a2fe24709e12d5274368"), looks := false }, kinds := [], alts := [], laidByText := true, laidKinds := [.data, .pinned], laidTests := true, laidLooks := .later }
def FnExactNodeGetUptoCardSaid : Prop := Claim7.holds Tryz.pinned (.plain (OpenSpec.upto fnExactNodeGetSpec)) fnExactNodeGetUptoCard

/-- THE SECOND FORM's CARD OF 'laws.FnExactNodeNew'. -/
def fnExactNodeNewUptoCard : Claim7 := { stood := { row := fnExactNodeNewUptoRow, standIns := [], harness := (true, "06f50079864d546ae03bcbcc0355e6d64698c22a9b01a2fe24709e12d5274368"), looks := false }, kinds := [], alts := [], laidByText := true, laidKinds := [.data, .pinned], laidTests := true, laidLooks := .later }
def FnExactNodeNewUptoCardSaid : Prop := Claim7.holds Tryz.pinned (.plain (OpenSpec.upto fnExactNodeNewSpec)) fnExactNodeNewUptoCard
end Rows
end Go.Proofs.YtfmkpckoghbniaaGreatDoor
