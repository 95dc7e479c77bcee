/-
  DERIVED. GIVEN WITH THE SEED: THE CARDS: each row of YthfpiilfndlnaaaGreatDoorRows.lean that lists a variable, with what it lists TIED to the program's text (the seventh form; the later family's looks); each row that meets fmt, with fmt's text TOLD by the authors' own Lean function (tested against real Go, not proved from fmt's source: count such statements apart). THE CARD IS WHAT COUNTS. Prove the row's statement (the work); the ties are given (YthfpiilfndlnaaaGreatDoorTie.lean); close each card by the builder's one call (the guide's Derived/Test/ToyasCard.lean, 'card_holds'). Laid BY PROGRAM, IN A SANDBOX (cutbox-door.mjs). By AI agents, Wed Nov 11 2026. No macro, syntax, notation, axiom, sorry.
-/
import Derived.Test.YthfpiilfndlnaaaGreatDoorRows
import GoSem.ClaimSeven
namespace Go.Proofs.YthfpiilfndlnaaaGreatDoor
namespace Rows

/-- THE TIED CARD OF 'laws.FnExactNodeGet'. -/
def fnExactNodeGetCard : Claim7 := { stood := { row := fnExactNodeGetRow, standIns := [], harness := (true, "623fe6fd75645a0a81d11f3e73269fd8c50e9af768af3e719f4a64e2fb2fbc11"), looks := false }, kinds := [], alts := [], laidByText := true, laidKinds := [.data, .pinned], laidTests := true, laidLooks := .later }
def FnExactNodeGetCardSaid : Prop := Claim7.holds Tryz.pinned (.plain (OpenSpec.ofChange fnExactNodeGetSpec)) fnExactNodeGetCard

/-- THE TIED CARD OF 'laws.FnExactNodeNew'. -/
def fnExactNodeNewCard : Claim7 := { stood := { row := fnExactNodeNewRow, standIns := [], harness := (true, "623fe6fd75645a0a81d11f3e73269fd8c50e9af768af3e719f4a64e2fb2fbc11"), looks := false }, kinds := [], alts := [], laidByText := true, laidKinds := [.data, .pinned], laidTests := true, laidLooks := .later }
def FnExactNodeNewCardSaid : Prop := Claim7.holds Tryz.pinned (.plain (OpenSpec.ofChange fnExactNodeNewSpec)) fnExactNodeNewCard

/-- THE TIED CARD OF 'laws.FnExactWorldOk'. -/
def fnExactWorldOkCard : Claim7 := { stood := { row := fnExactWorldOkRow, standIns := [], harness := (true, "623fe6fd75645a0a81d11f3e73269fd8c50e9af768af3e719f4a64e2fb2fbc11"), looks := false }, kinds := [], alts := [], laidByText := true, laidKinds := [.data, .pinned], laidTests := true, laidLooks := .later }
def FnExactWorldOkCardSaid : Prop := Claim7.holds Tryz.pinned (.plain (OpenSpec.ofChange fnExactWorldOkSpec)) fnExactWorldOkCard

/-- THE SECOND FORM's CARD OF 'laws.FnExactNodeGet'. -/
def fnExactNodeGetUptoCard : Claim7 := { stood := { row := fnExactNodeGetUptoRow, standIns := [], harness := (true, "623fe6fd75645a0a81d11f3e73269fd8c50e9af768af3e719f4a64e2fb2fbc11"), looks := false }, kinds := [], alts := [], laidByText := true, laidKinds := [.data, .pinned], laidTests := true, laidLooks := .later }
def FnExactNodeGetUptoCardSaid : Prop := Claim7.holds Tryz.pinned (.plain (OpenSpec.upto fnExactNodeGetSpec)) fnExactNodeGetUptoCard

/-- THE SECOND FORM's CARD OF 'laws.FnExactNodeNew'. -/
def fnExactNodeNewUptoCard : Claim7 := { stood := { row := fnExactNodeNewUptoRow, standIns := [], harness := (true, "623fe6fd75645a0a81d11f3e73269fd8c50e9af768af3e719f4a64e2fb2fbc11"), looks := false }, kinds := [], alts := [], laidByText := true, laidKinds := [.data, .pinned], laidTests := true, laidLooks := .later }
def FnExactNodeNewUptoCardSaid : Prop := Claim7.holds Tryz.pinned (.plain (OpenSpec.upto fnExactNodeNewSpec)) fnExactNodeNewUptoCard

/-- THE SECOND FORM's CARD OF 'laws.FnExactWorldOk'. -/
def fnExactWorldOkUptoCard : Claim7 := { stood := { row := fnExactWorldOkUptoRow, standIns := [], harness := (true, "623fe6fd75645a0a81d11f3e73269fd8c50e9af768af3e719f4a64e2fb2fbc11"), looks := false }, kinds := [], alts := [], laidByText := true, laidKinds := [.data, .pinned], laidTests := true, laidLooks := .later }
def FnExactWorldOkUptoCardSaid : Prop := Claim7.holds Tryz.pinned (.plain (OpenSpec.upto fnExactWorldOkSpec)) fnExactWorldOkUptoCard
end Rows
end Go.Proofs.YthfpiilfndlnaaaGreatDoor
