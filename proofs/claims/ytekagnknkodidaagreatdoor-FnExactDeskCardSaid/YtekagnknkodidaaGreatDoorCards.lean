/-
  DERIVED. GIVEN WITH THE SEED: THE CARDS: each row of YtekagnknkodidaaGreatDoorRows.lean that lists a variable, with what it lists TIED to the program's text (the seventh form; the later family's looks); each row that meets fmt, with fmt's text TOLD by the authors' own Lean function (tested against real Go, not proved from fmt's source: count such statements apart). THE CARD IS WHAT COUNTS. Prove the row's statement (the work); the ties are given (YtekagnknkodidaaGreatDoorTie.lean); close each card by the builder's one call (the guide's Derived/Test/ToyasCard.lean, 'card_holds'). Laid BY PROGRAM, IN A SANDBOX (cutbox-door.mjs). By AI agents, Wed Nov 11 2026. No macro, syntax, notation, axiom, sorry.
-/
import Derived.Test.YtekagnknkodidaaGreatDoorRows
import GoSem.ClaimSeven
namespace Go.Proofs.YtekagnknkodidaaGreatDoor
namespace Rows

/-- THE TIED CARD OF 'laws.FnExactDesk'. -/
def fnExactDeskCard : Claim7 := { stood := { row := fnExactDeskRow, standIns := [], harness := (true, "cc841e9433d8e7cdfa499970bd2524f62b52490ae22c516cc8d7737bf6098b42"), looks := false }, kinds := [], alts := [], laidByText := true, laidKinds := [.data, .pinned], laidTests := true, laidLooks := .later }
def FnExactDeskCardSaid : Prop := Claim7.holds Tryz.pinned (.plain (OpenSpec.ofChange fnExactDeskSpec)) fnExactDeskCard

/-- THE SECOND FORM's CARD OF 'laws.FnExactDesk'. -/
def fnExactDeskUptoCard : Claim7 := { stood := { row := fnExactDeskUptoRow, standIns := [], harness := (true, "cc841e9433d8e7cdfa499970bd2524f62b52490ae22c516cc8d7737bf6098b42"), looks := false }, kinds := [], alts := [], laidByText := true, laidKinds := [.data, .pinned], laidTests := true, laidLooks := .later }
def FnExactDeskUptoCardSaid : Prop := Claim7.holds Tryz.pinned (.plain (OpenSpec.upto fnExactDeskSpec)) fnExactDeskUptoCard
end Rows
end Go.Proofs.YtekagnknkodidaaGreatDoor
