/-
  No cell of these rows narrows 'for every input' (looked for: loops, veiled, ifaces, maps, wideKeys, modest, calm, conditions, laid).
  DERIVED. THE GIVEN ROWS OF THIS SEAT. 8 by the template 'for every input the law returns true; each argument reads behind the call as it read before'; 0 by the template 'total and deterministic' (their statements: YtpkgdepnmdnihaaTotals.lean).
  GIVEN WITH THE SEED: the statements are not yours to turn. If you find one false, say at which input.
  Laid BY PROGRAM, IN A SANDBOX (cutbox-rows.mjs): the forced cells as the released guide's own fill.sh prints them over the translation 10b9b04d3d9a4af2… (all of the seat's roots in one cut). By AI agents, Wed Nov 11 2026. No macro, syntax, notation, axiom, sorry.
-/
import Derived.Test.YtpkgdepnmdnihaaChecked
import GoSem.Claim
import GoSem.ClaimJoined
import GoSem.ClaimMapViews
import Derived.JoinedTies
import Derived.KernelRfl
namespace Go.Proofs.Ytpkgdepnmdnihaa
/- THE CELL 'sum', in the pinned program and in every row, IS THE sha256 OF THE DUMP (.gsa) THAT YtpkgdepnmdnihaaProg.lean LOADS. Nothing in Lean hashes anything: it is a label: what it is worth is what the hold of that sum in a sandbox is worth. -/
noncomputable def Try.pinned : Pinned := { name := "ytpkgdepnmdnihaa", sum := "10b9b04d3d9a4af2b04a3c2571fe102061fc089cc4d8f39c49c91104734d7cdd", checked := Try.checked }
namespace Rows
def none {H : Type} : Left H := { results := [], args := [] }

/-- 'laws.FnExactClientNew': WHATEVER THE INPUT: true; the input reads as it did. -/
def fnExactClientNewSpec : ChangeSpec := { name := "fnExactClientNew", fn := fun _ => fun
  | [d] => { results := [.lit (.bool true)], args := [d] }
  | _ => none }
def fnExactClientNewRow : OpenClaim := { program := "ytpkgdepnmdnihaa", sum := "10b9b04d3d9a4af2b04a3c2571fe102061fc089cc4d8f39c49c91104734d7cdd", func := "loop.example/g00475/laws.FnExactClientNew", spec := "fnExactClientNew", apart := false }
def FnExactClientNewSaid : Prop := fnExactClientNewRow.holds Try.pinned (OpenSpec.ofChange fnExactClientNewSpec)

/-- ITS FALSE NEIGHBOUR: 'it returns false'. Refute it at one input. -/
def fnExactClientNewWrong : ChangeSpec := { name := "fnExactClientNew", fn := fun _ => fun
  | [d] => { results := [.lit (.bool false)], args := [d] }
  | _ => none }
def FnExactClientNewWrongFalsely : Prop := fnExactClientNewRow.holds Try.pinned (OpenSpec.ofChange fnExactClientNewWrong)

/-- 'laws.FnExactClientOk': WHATEVER THE INPUT: true; the input reads as it did. -/
def fnExactClientOkSpec : ChangeSpec := { name := "fnExactClientOk", fn := fun _ => fun
  | [d] => { results := [.lit (.bool true)], args := [d] }
  | _ => none }
def fnExactClientOkRow : OpenClaim := { program := "ytpkgdepnmdnihaa", sum := "10b9b04d3d9a4af2b04a3c2571fe102061fc089cc4d8f39c49c91104734d7cdd", func := "loop.example/g00475/laws.FnExactClientOk", spec := "fnExactClientOk", apart := false }
def FnExactClientOkSaid : Prop := fnExactClientOkRow.holds Try.pinned (OpenSpec.ofChange fnExactClientOkSpec)

/-- ITS FALSE NEIGHBOUR: 'it returns false'. Refute it at one input. -/
def fnExactClientOkWrong : ChangeSpec := { name := "fnExactClientOk", fn := fun _ => fun
  | [d] => { results := [.lit (.bool false)], args := [d] }
  | _ => none }
def FnExactClientOkWrongFalsely : Prop := fnExactClientOkRow.holds Try.pinned (OpenSpec.ofChange fnExactClientOkWrong)

/-- 'laws.FnExactAgain': WHATEVER THE INPUT: true; the input reads as it did. -/
def fnExactAgainSpec : ChangeSpec := { name := "fnExactAgain", fn := fun _ => fun
  | [d] => { results := [.lit (.bool true)], args := [d] }
  | _ => none }
def fnExactAgainRow : OpenClaim := { program := "ytpkgdepnmdnihaa", sum := "10b9b04d3d9a4af2b04a3c2571fe102061fc089cc4d8f39c49c91104734d7cdd", func := "loop.example/g00475/laws.FnExactAgain", spec := "fnExactAgain", apart := false }
def FnExactAgainSaid : Prop := fnExactAgainRow.holds Try.pinned (OpenSpec.ofChange fnExactAgainSpec)

/-- ITS FALSE NEIGHBOUR: 'it returns false'. Refute it at one input. -/
def fnExactAgainWrong : ChangeSpec := { name := "fnExactAgain", fn := fun _ => fun
  | [d] => { results := [.lit (.bool false)], args := [d] }
  | _ => none }
def FnExactAgainWrongFalsely : Prop := fnExactAgainRow.holds Try.pinned (OpenSpec.ofChange fnExactAgainWrong)

/-- 'laws.FnExactAskFor': WHATEVER THE INPUT: true; the input reads as it did. -/
def fnExactAskForSpec : ChangeSpec := { name := "fnExactAskFor", fn := fun _ => fun
  | [d1, d2, d3, d4] => { results := [.lit (.bool true)], args := [d1, d2, d3, d4] }
  | _ => none }
def fnExactAskForRow : OpenClaim := { program := "ytpkgdepnmdnihaa", sum := "10b9b04d3d9a4af2b04a3c2571fe102061fc089cc4d8f39c49c91104734d7cdd", func := "loop.example/g00475/laws.FnExactAskFor", spec := "fnExactAskFor", apart := false }
def FnExactAskForSaid : Prop := fnExactAskForRow.holds Try.pinned (OpenSpec.ofChange fnExactAskForSpec)

/-- ITS FALSE NEIGHBOUR: 'it returns false'. Refute it at one input. -/
def fnExactAskForWrong : ChangeSpec := { name := "fnExactAskFor", fn := fun _ => fun
  | [d1, d2, d3, d4] => { results := [.lit (.bool false)], args := [d1, d2, d3, d4] }
  | _ => none }
def FnExactAskForWrongFalsely : Prop := fnExactAskForRow.holds Try.pinned (OpenSpec.ofChange fnExactAskForWrong)

/-- 'laws.FnExactTold': WHATEVER THE INPUT: true; the input reads as it did. -/
def fnExactToldSpec : ChangeSpec := { name := "fnExactTold", fn := fun _ => fun
  | [d1, d2] => { results := [.lit (.bool true)], args := [d1, d2] }
  | _ => none }
def fnExactToldRow : OpenClaim := { program := "ytpkgdepnmdnihaa", sum := "10b9b04d3d9a4af2b04a3c2571fe102061fc089cc4d8f39c49c91104734d7cdd", func := "loop.example/g00475/laws.FnExactTold", spec := "fnExactTold", apart := false }
def FnExactToldSaid : Prop := fnExactToldRow.holds Try.pinned (OpenSpec.ofChange fnExactToldSpec)

/-- ITS FALSE NEIGHBOUR: 'it returns false'. Refute it at one input. -/
def fnExactToldWrong : ChangeSpec := { name := "fnExactTold", fn := fun _ => fun
  | [d1, d2] => { results := [.lit (.bool false)], args := [d1, d2] }
  | _ => none }
def FnExactToldWrongFalsely : Prop := fnExactToldRow.holds Try.pinned (OpenSpec.ofChange fnExactToldWrong)

/-- 'laws.FnClients': WHATEVER THE INPUT: true; the input reads as it did. -/
def fnClientsSpec : ChangeSpec := { name := "fnClients", fn := fun _ => fun
  | [d] => { results := [.lit (.bool true)], args := [d] }
  | _ => none }
def fnClientsRow : OpenClaim := { program := "ytpkgdepnmdnihaa", sum := "10b9b04d3d9a4af2b04a3c2571fe102061fc089cc4d8f39c49c91104734d7cdd", func := "loop.example/g00475/laws.FnClients", spec := "fnClients", apart := false }
def FnClientsSaid : Prop := fnClientsRow.holds Try.pinned (OpenSpec.ofChange fnClientsSpec)

/-- ITS FALSE NEIGHBOUR: 'it returns false'. Refute it at one input. -/
def fnClientsWrong : ChangeSpec := { name := "fnClients", fn := fun _ => fun
  | [d] => { results := [.lit (.bool false)], args := [d] }
  | _ => none }
def FnClientsWrongFalsely : Prop := fnClientsRow.holds Try.pinned (OpenSpec.ofChange fnClientsWrong)

/-- 'laws.FnPhases': WHATEVER THE INPUT: true; the input reads as it did. -/
def fnPhasesSpec : ChangeSpec := { name := "fnPhases", fn := fun _ => fun
  | [d] => { results := [.lit (.bool true)], args := [d] }
  | _ => none }
def fnPhasesRow : OpenClaim := { program := "ytpkgdepnmdnihaa", sum := "10b9b04d3d9a4af2b04a3c2571fe102061fc089cc4d8f39c49c91104734d7cdd", func := "loop.example/g00475/laws.FnPhases", spec := "fnPhases", recurses := true, apart := false }
def FnPhasesSaid : Prop := fnPhasesRow.holds Try.pinned (OpenSpec.ofChange fnPhasesSpec)

/-- ITS FALSE NEIGHBOUR: 'it returns false'. Refute it at one input. -/
def fnPhasesWrong : ChangeSpec := { name := "fnPhases", fn := fun _ => fun
  | [d] => { results := [.lit (.bool false)], args := [d] }
  | _ => none }
def FnPhasesWrongFalsely : Prop := fnPhasesRow.holds Try.pinned (OpenSpec.ofChange fnPhasesWrong)

/-- 'laws.FnLeadsBent': WHATEVER THE INPUT: true; the input reads as it did. -/
def fnLeadsBentSpec : ChangeSpec := { name := "fnLeadsBent", fn := fun _ => fun
  | [d] => { results := [.lit (.bool true)], args := [d] }
  | _ => none }
def fnLeadsBentRow : OpenClaim := { program := "ytpkgdepnmdnihaa", sum := "10b9b04d3d9a4af2b04a3c2571fe102061fc089cc4d8f39c49c91104734d7cdd", func := "loop.example/g00475/laws.FnLeadsBent", spec := "fnLeadsBent", apart := false }
def FnLeadsBentSaid : Prop := fnLeadsBentRow.holds Try.pinned (OpenSpec.ofChange fnLeadsBentSpec)

/-- ITS FALSE NEIGHBOUR: 'it returns false'. Refute it at one input. -/
def fnLeadsBentWrong : ChangeSpec := { name := "fnLeadsBent", fn := fun _ => fun
  | [d] => { results := [.lit (.bool false)], args := [d] }
  | _ => none }
def FnLeadsBentWrongFalsely : Prop := fnLeadsBentRow.holds Try.pinned (OpenSpec.ofChange fnLeadsBentWrong)

/- THE SECOND FORM. 'bulk': how many values and letters a reading holds, each counted each time it is reached (what is shared counts as often as it is met; a slice's spare places count too). A statement '..UptoSaid' is the law's where the arguments, and the package variables that the reading takes, are together of bulk at most 1048576: NARROWER than '..Said'. Prove '..Said' where nothing that the law and all that it calls make is longer than what came in: it says more and counts as full. Else prove '..UptoSaid'. A law counts once. -/
mutual
def uptoBulk {H : Type} : DataW H → Nat
  | .lit (.string bytes) => bytes.length + 1
  | .lit _ => 1
  | .nil => 1
  | .ptr d => uptoBulk d + 1
  | .slice elems spare => uptoBulkAll elems + uptoBulkAll spare + 1
  | .agg parts => uptoBulkAll parts + 1
  | .iface _ d => uptoBulk d + 1
  | .map entries => uptoBulkEntries entries + 1
  | .held _ => 1
def uptoBulkAll {H : Type} : List (DataW H) → Nat
  | [] => 0
  | d :: r => uptoBulk d + uptoBulkAll r
def uptoBulkEntries {H : Type} : List (Lit × DataW H) → Nat
  | [] => 0
  | x :: r => uptoBulkEntry x + uptoBulkEntries r
def uptoBulkEntry {H : Type} : Lit × DataW H → Nat
  | (.string bytes, d) => bytes.length + uptoBulk d + 1
  | (_, d) => uptoBulk d + 1
 end
def uptoSmall : (H : Type) → List (DataW H) → Bool := fun _ ds => decide (uptoBulkAll ds ≤ 1048576)
def OpenSpec.upto (s : _root_.Go.ChangeSpec) : _root_.Go.OpenSpec := { _root_.Go.OpenSpec.ofChange s with cond := some uptoSmall }

/-- 'laws.FnExactClientNew', WHERE WHAT IT READS IS OF BULK AT MOST 1048576: true; the input reads as it did. -/
def fnExactClientNewUptoRow : OpenClaim := { program := "ytpkgdepnmdnihaa", sum := "10b9b04d3d9a4af2b04a3c2571fe102061fc089cc4d8f39c49c91104734d7cdd", func := "loop.example/g00475/laws.FnExactClientNew", spec := "fnExactClientNew", apart := false, narrowed := true }
def FnExactClientNewUptoSaid : Prop := fnExactClientNewUptoRow.holds Try.pinned (OpenSpec.upto fnExactClientNewSpec)

/-- 'laws.FnExactClientOk', WHERE WHAT IT READS IS OF BULK AT MOST 1048576: true; the input reads as it did. -/
def fnExactClientOkUptoRow : OpenClaim := { program := "ytpkgdepnmdnihaa", sum := "10b9b04d3d9a4af2b04a3c2571fe102061fc089cc4d8f39c49c91104734d7cdd", func := "loop.example/g00475/laws.FnExactClientOk", spec := "fnExactClientOk", apart := false, narrowed := true }
def FnExactClientOkUptoSaid : Prop := fnExactClientOkUptoRow.holds Try.pinned (OpenSpec.upto fnExactClientOkSpec)

/-- 'laws.FnExactAgain', WHERE WHAT IT READS IS OF BULK AT MOST 1048576: true; the input reads as it did. -/
def fnExactAgainUptoRow : OpenClaim := { program := "ytpkgdepnmdnihaa", sum := "10b9b04d3d9a4af2b04a3c2571fe102061fc089cc4d8f39c49c91104734d7cdd", func := "loop.example/g00475/laws.FnExactAgain", spec := "fnExactAgain", apart := false, narrowed := true }
def FnExactAgainUptoSaid : Prop := fnExactAgainUptoRow.holds Try.pinned (OpenSpec.upto fnExactAgainSpec)

/-- 'laws.FnExactAskFor', WHERE WHAT IT READS IS OF BULK AT MOST 1048576: true; the input reads as it did. -/
def fnExactAskForUptoRow : OpenClaim := { program := "ytpkgdepnmdnihaa", sum := "10b9b04d3d9a4af2b04a3c2571fe102061fc089cc4d8f39c49c91104734d7cdd", func := "loop.example/g00475/laws.FnExactAskFor", spec := "fnExactAskFor", apart := false, narrowed := true }
def FnExactAskForUptoSaid : Prop := fnExactAskForUptoRow.holds Try.pinned (OpenSpec.upto fnExactAskForSpec)

/-- 'laws.FnExactTold', WHERE WHAT IT READS IS OF BULK AT MOST 1048576: true; the input reads as it did. -/
def fnExactToldUptoRow : OpenClaim := { program := "ytpkgdepnmdnihaa", sum := "10b9b04d3d9a4af2b04a3c2571fe102061fc089cc4d8f39c49c91104734d7cdd", func := "loop.example/g00475/laws.FnExactTold", spec := "fnExactTold", apart := false, narrowed := true }
def FnExactToldUptoSaid : Prop := fnExactToldUptoRow.holds Try.pinned (OpenSpec.upto fnExactToldSpec)

/-- 'laws.FnClients', WHERE WHAT IT READS IS OF BULK AT MOST 1048576: true; the input reads as it did. -/
def fnClientsUptoRow : OpenClaim := { program := "ytpkgdepnmdnihaa", sum := "10b9b04d3d9a4af2b04a3c2571fe102061fc089cc4d8f39c49c91104734d7cdd", func := "loop.example/g00475/laws.FnClients", spec := "fnClients", apart := false, narrowed := true }
def FnClientsUptoSaid : Prop := fnClientsUptoRow.holds Try.pinned (OpenSpec.upto fnClientsSpec)

/-- 'laws.FnPhases', WHERE WHAT IT READS IS OF BULK AT MOST 1048576: true; the input reads as it did. -/
def fnPhasesUptoRow : OpenClaim := { program := "ytpkgdepnmdnihaa", sum := "10b9b04d3d9a4af2b04a3c2571fe102061fc089cc4d8f39c49c91104734d7cdd", func := "loop.example/g00475/laws.FnPhases", spec := "fnPhases", recurses := true, apart := false, narrowed := true }
def FnPhasesUptoSaid : Prop := fnPhasesUptoRow.holds Try.pinned (OpenSpec.upto fnPhasesSpec)

/-- 'laws.FnLeadsBent', WHERE WHAT IT READS IS OF BULK AT MOST 1048576: true; the input reads as it did. -/
def fnLeadsBentUptoRow : OpenClaim := { program := "ytpkgdepnmdnihaa", sum := "10b9b04d3d9a4af2b04a3c2571fe102061fc089cc4d8f39c49c91104734d7cdd", func := "loop.example/g00475/laws.FnLeadsBent", spec := "fnLeadsBent", apart := false, narrowed := true }
def FnLeadsBentUptoSaid : Prop := fnLeadsBentUptoRow.holds Try.pinned (OpenSpec.upto fnLeadsBentSpec)

end Rows
end Go.Proofs.Ytpkgdepnmdnihaa
