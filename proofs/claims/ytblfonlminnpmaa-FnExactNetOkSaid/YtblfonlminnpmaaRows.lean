/-
  No cell of these rows narrows 'for every input' (looked for: loops, veiled, ifaces, maps, wideKeys, modest, calm, conditions, laid).
  DERIVED. THE GIVEN ROWS OF THIS SEAT. 12 by the template 'for every input the law returns true; each argument reads behind the call as it read before'; 0 by the template 'total and deterministic' (their statements: YtblfonlminnpmaaTotals.lean).
  GIVEN WITH THE SEED: the statements are not yours to turn. If you find one false, say at which input.
  Laid BY PROGRAM, IN A SANDBOX (cutbox-rows.mjs): the forced cells as the released guide's own fill.sh prints them over the translation 2367735cdaa9ca97… (all of the seat's roots in one cut). By AI agents, Wed Nov 11 2026. No macro, syntax, notation, axiom, sorry.
-/
import Derived.Test.YtblfonlminnpmaaChecked
import GoSem.Claim
import GoSem.ClaimJoined
import GoSem.ClaimMapViews
import Derived.JoinedTies
import Derived.KernelRfl
namespace Go.Proofs.Ytblfonlminnpmaa
/- THE CELL 'sum', in the pinned program and in every row, IS THE sha256 OF THE DUMP (.gsa) THAT YtblfonlminnpmaaProg.lean LOADS. Nothing in Lean hashes anything: it is a label: what it is worth is what the hold of that sum in a sandbox is worth. -/
noncomputable def Try.pinned : Pinned := { name := "ytblfonlminnpmaa", sum := "2367735cdaa9ca974d1b402d83da9800d01011138cb9323328380e9c9001751a", checked := Try.checked }
namespace Rows
def none {H : Type} : Left H := { results := [], args := [] }

/-- 'laws.FnExactWalks': WHATEVER THE INPUT: true; the input reads as it did. -/
def fnExactWalksSpec : ChangeSpec := { name := "fnExactWalks", fn := fun _ => fun
  | [d] => { results := [.lit (.bool true)], args := [d] }
  | _ => none }
def fnExactWalksRow : OpenClaim := { program := "ytblfonlminnpmaa", sum := "2367735cdaa9ca974d1b402d83da9800d01011138cb9323328380e9c9001751a", func := "loop.example/g00475/laws.FnExactWalks", spec := "fnExactWalks", apart := false }
def FnExactWalksSaid : Prop := fnExactWalksRow.holds Try.pinned (OpenSpec.ofChange fnExactWalksSpec)

/-- ITS FALSE NEIGHBOUR: 'it returns false'. Refute it at one input. -/
def fnExactWalksWrong : ChangeSpec := { name := "fnExactWalks", fn := fun _ => fun
  | [d] => { results := [.lit (.bool false)], args := [d] }
  | _ => none }
def FnExactWalksWrongFalsely : Prop := fnExactWalksRow.holds Try.pinned (OpenSpec.ofChange fnExactWalksWrong)

/-- 'laws.FnExactNodeOf': WHATEVER THE INPUT: true; the input reads as it did. -/
def fnExactNodeOfSpec : ChangeSpec := { name := "fnExactNodeOf", fn := fun _ => fun
  | [d] => { results := [.lit (.bool true)], args := [d] }
  | _ => none }
def fnExactNodeOfRow : OpenClaim := { program := "ytblfonlminnpmaa", sum := "2367735cdaa9ca974d1b402d83da9800d01011138cb9323328380e9c9001751a", func := "loop.example/g00475/laws.FnExactNodeOf", spec := "fnExactNodeOf", apart := false }
def FnExactNodeOfSaid : Prop := fnExactNodeOfRow.holds Try.pinned (OpenSpec.ofChange fnExactNodeOfSpec)

/-- ITS FALSE NEIGHBOUR: 'it returns false'. Refute it at one input. -/
def fnExactNodeOfWrong : ChangeSpec := { name := "fnExactNodeOf", fn := fun _ => fun
  | [d] => { results := [.lit (.bool false)], args := [d] }
  | _ => none }
def FnExactNodeOfWrongFalsely : Prop := fnExactNodeOfRow.holds Try.pinned (OpenSpec.ofChange fnExactNodeOfWrong)

/-- 'laws.FnExactPhaseName': WHATEVER THE INPUT: true; the input reads as it did. -/
def fnExactPhaseNameSpec : ChangeSpec := { name := "fnExactPhaseName", fn := fun _ => fun
  | [d] => { results := [.lit (.bool true)], args := [d] }
  | _ => none }
def fnExactPhaseNameRow : OpenClaim := { program := "ytblfonlminnpmaa", sum := "2367735cdaa9ca974d1b402d83da9800d01011138cb9323328380e9c9001751a", func := "loop.example/g00475/laws.FnExactPhaseName", spec := "fnExactPhaseName", apart := false }
def FnExactPhaseNameSaid : Prop := fnExactPhaseNameRow.holds Try.pinned (OpenSpec.ofChange fnExactPhaseNameSpec)

/-- ITS FALSE NEIGHBOUR: 'it returns false'. Refute it at one input. -/
def fnExactPhaseNameWrong : ChangeSpec := { name := "fnExactPhaseName", fn := fun _ => fun
  | [d] => { results := [.lit (.bool false)], args := [d] }
  | _ => none }
def FnExactPhaseNameWrongFalsely : Prop := fnExactPhaseNameRow.holds Try.pinned (OpenSpec.ofChange fnExactPhaseNameWrong)

/-- 'laws.FnExactNextOk': WHATEVER THE INPUT: true; the input reads as it did. -/
def fnExactNextOkSpec : ChangeSpec := { name := "fnExactNextOk", fn := fun _ => fun
  | [d1, d2] => { results := [.lit (.bool true)], args := [d1, d2] }
  | _ => none }
def fnExactNextOkRow : OpenClaim := { program := "ytblfonlminnpmaa", sum := "2367735cdaa9ca974d1b402d83da9800d01011138cb9323328380e9c9001751a", func := "loop.example/g00475/laws.FnExactNextOk", spec := "fnExactNextOk", apart := false }
def FnExactNextOkSaid : Prop := fnExactNextOkRow.holds Try.pinned (OpenSpec.ofChange fnExactNextOkSpec)

/-- ITS FALSE NEIGHBOUR: 'it returns false'. Refute it at one input. -/
def fnExactNextOkWrong : ChangeSpec := { name := "fnExactNextOk", fn := fun _ => fun
  | [d1, d2] => { results := [.lit (.bool false)], args := [d1, d2] }
  | _ => none }
def FnExactNextOkWrongFalsely : Prop := fnExactNextOkRow.holds Try.pinned (OpenSpec.ofChange fnExactNextOkWrong)

/-- 'laws.FnExactPhaseOf': WHATEVER THE INPUT: true; the input reads as it did. -/
def fnExactPhaseOfSpec : ChangeSpec := { name := "fnExactPhaseOf", fn := fun _ => fun
  | [d] => { results := [.lit (.bool true)], args := [d] }
  | _ => none }
def fnExactPhaseOfRow : OpenClaim := { program := "ytblfonlminnpmaa", sum := "2367735cdaa9ca974d1b402d83da9800d01011138cb9323328380e9c9001751a", func := "loop.example/g00475/laws.FnExactPhaseOf", spec := "fnExactPhaseOf", apart := false }
def FnExactPhaseOfSaid : Prop := fnExactPhaseOfRow.holds Try.pinned (OpenSpec.ofChange fnExactPhaseOfSpec)

/-- ITS FALSE NEIGHBOUR: 'it returns false'. Refute it at one input. -/
def fnExactPhaseOfWrong : ChangeSpec := { name := "fnExactPhaseOf", fn := fun _ => fun
  | [d] => { results := [.lit (.bool false)], args := [d] }
  | _ => none }
def FnExactPhaseOfWrongFalsely : Prop := fnExactPhaseOfRow.holds Try.pinned (OpenSpec.ofChange fnExactPhaseOfWrong)

/-- 'laws.FnExactMsgOk': WHATEVER THE INPUT: true; the input reads as it did. -/
def fnExactMsgOkSpec : ChangeSpec := { name := "fnExactMsgOk", fn := fun _ => fun
  | [d] => { results := [.lit (.bool true)], args := [d] }
  | _ => none }
def fnExactMsgOkRow : OpenClaim := { program := "ytblfonlminnpmaa", sum := "2367735cdaa9ca974d1b402d83da9800d01011138cb9323328380e9c9001751a", func := "loop.example/g00475/laws.FnExactMsgOk", spec := "fnExactMsgOk", apart := false }
def FnExactMsgOkSaid : Prop := fnExactMsgOkRow.holds Try.pinned (OpenSpec.ofChange fnExactMsgOkSpec)

/-- ITS FALSE NEIGHBOUR: 'it returns false'. Refute it at one input. -/
def fnExactMsgOkWrong : ChangeSpec := { name := "fnExactMsgOk", fn := fun _ => fun
  | [d] => { results := [.lit (.bool false)], args := [d] }
  | _ => none }
def FnExactMsgOkWrongFalsely : Prop := fnExactMsgOkRow.holds Try.pinned (OpenSpec.ofChange fnExactMsgOkWrong)

/-- 'laws.FnExactReaches': WHATEVER THE INPUT: true; the input reads as it did. -/
def fnExactReachesSpec : ChangeSpec := { name := "fnExactReaches", fn := fun _ => fun
  | [d1, d2] => { results := [.lit (.bool true)], args := [d1, d2] }
  | _ => none }
def fnExactReachesRow : OpenClaim := { program := "ytblfonlminnpmaa", sum := "2367735cdaa9ca974d1b402d83da9800d01011138cb9323328380e9c9001751a", func := "loop.example/g00475/laws.FnExactReaches", spec := "fnExactReaches", recurses := true, apart := false }
def FnExactReachesSaid : Prop := fnExactReachesRow.holds Try.pinned (OpenSpec.ofChange fnExactReachesSpec)

/-- ITS FALSE NEIGHBOUR: 'it returns false'. Refute it at one input. -/
def fnExactReachesWrong : ChangeSpec := { name := "fnExactReaches", fn := fun _ => fun
  | [d1, d2] => { results := [.lit (.bool false)], args := [d1, d2] }
  | _ => none }
def FnExactReachesWrongFalsely : Prop := fnExactReachesRow.holds Try.pinned (OpenSpec.ofChange fnExactReachesWrong)

/-- 'laws.FnExactLeadOk': WHATEVER THE INPUT: true; the input reads as it did. -/
def fnExactLeadOkSpec : ChangeSpec := { name := "fnExactLeadOk", fn := fun _ => fun
  | [d] => { results := [.lit (.bool true)], args := [d] }
  | _ => none }
def fnExactLeadOkRow : OpenClaim := { program := "ytblfonlminnpmaa", sum := "2367735cdaa9ca974d1b402d83da9800d01011138cb9323328380e9c9001751a", func := "loop.example/g00475/laws.FnExactLeadOk", spec := "fnExactLeadOk", apart := false }
def FnExactLeadOkSaid : Prop := fnExactLeadOkRow.holds Try.pinned (OpenSpec.ofChange fnExactLeadOkSpec)

/-- ITS FALSE NEIGHBOUR: 'it returns false'. Refute it at one input. -/
def fnExactLeadOkWrong : ChangeSpec := { name := "fnExactLeadOk", fn := fun _ => fun
  | [d] => { results := [.lit (.bool false)], args := [d] }
  | _ => none }
def FnExactLeadOkWrongFalsely : Prop := fnExactLeadOkRow.holds Try.pinned (OpenSpec.ofChange fnExactLeadOkWrong)

/-- 'laws.FnExactNetOk': WHATEVER THE INPUT: true; the input reads as it did. -/
def fnExactNetOkSpec : ChangeSpec := { name := "fnExactNetOk", fn := fun _ => fun
  | [d] => { results := [.lit (.bool true)], args := [d] }
  | _ => none }
def fnExactNetOkRow : OpenClaim := { program := "ytblfonlminnpmaa", sum := "2367735cdaa9ca974d1b402d83da9800d01011138cb9323328380e9c9001751a", func := "loop.example/g00475/laws.FnExactNetOk", spec := "fnExactNetOk", apart := false }
def FnExactNetOkSaid : Prop := fnExactNetOkRow.holds Try.pinned (OpenSpec.ofChange fnExactNetOkSpec)

/-- ITS FALSE NEIGHBOUR: 'it returns false'. Refute it at one input. -/
def fnExactNetOkWrong : ChangeSpec := { name := "fnExactNetOk", fn := fun _ => fun
  | [d] => { results := [.lit (.bool false)], args := [d] }
  | _ => none }
def FnExactNetOkWrongFalsely : Prop := fnExactNetOkRow.holds Try.pinned (OpenSpec.ofChange fnExactNetOkWrong)

/-- 'laws.FnExactLeadNew': WHATEVER THE INPUT: true; the input reads as it did. -/
def fnExactLeadNewSpec : ChangeSpec := { name := "fnExactLeadNew", fn := fun _ => fun
  | [] => { results := [.lit (.bool true)], args := [] }
  | _ => none }
def fnExactLeadNewRow : OpenClaim := { program := "ytblfonlminnpmaa", sum := "2367735cdaa9ca974d1b402d83da9800d01011138cb9323328380e9c9001751a", func := "loop.example/g00475/laws.FnExactLeadNew", spec := "fnExactLeadNew", apart := false }
def FnExactLeadNewSaid : Prop := fnExactLeadNewRow.holds Try.pinned (OpenSpec.ofChange fnExactLeadNewSpec)

/-- ITS FALSE NEIGHBOUR: 'it returns false'. Refute it at one input. -/
def fnExactLeadNewWrong : ChangeSpec := { name := "fnExactLeadNew", fn := fun _ => fun
  | [] => { results := [.lit (.bool false)], args := [] }
  | _ => none }
def FnExactLeadNewWrongFalsely : Prop := fnExactLeadNewRow.holds Try.pinned (OpenSpec.ofChange fnExactLeadNewWrong)

/-- 'laws.FnExactPutMsg': WHATEVER THE INPUT: true; the input reads as it did. -/
def fnExactPutMsgSpec : ChangeSpec := { name := "fnExactPutMsg", fn := fun _ => fun
  | [d] => { results := [.lit (.bool true)], args := [d] }
  | _ => none }
def fnExactPutMsgRow : OpenClaim := { program := "ytblfonlminnpmaa", sum := "2367735cdaa9ca974d1b402d83da9800d01011138cb9323328380e9c9001751a", func := "loop.example/g00475/laws.FnExactPutMsg", spec := "fnExactPutMsg", apart := false }
def FnExactPutMsgSaid : Prop := fnExactPutMsgRow.holds Try.pinned (OpenSpec.ofChange fnExactPutMsgSpec)

/-- ITS FALSE NEIGHBOUR: 'it returns false'. Refute it at one input. -/
def fnExactPutMsgWrong : ChangeSpec := { name := "fnExactPutMsg", fn := fun _ => fun
  | [d] => { results := [.lit (.bool false)], args := [d] }
  | _ => none }
def FnExactPutMsgWrongFalsely : Prop := fnExactPutMsgRow.holds Try.pinned (OpenSpec.ofChange fnExactPutMsgWrong)

/-- 'laws.FnExactTakeOut': WHATEVER THE INPUT: true; the input reads as it did. -/
def fnExactTakeOutSpec : ChangeSpec := { name := "fnExactTakeOut", fn := fun _ => fun
  | [d1, d2] => { results := [.lit (.bool true)], args := [d1, d2] }
  | _ => none }
def fnExactTakeOutRow : OpenClaim := { program := "ytblfonlminnpmaa", sum := "2367735cdaa9ca974d1b402d83da9800d01011138cb9323328380e9c9001751a", func := "loop.example/g00475/laws.FnExactTakeOut", spec := "fnExactTakeOut", apart := false }
def FnExactTakeOutSaid : Prop := fnExactTakeOutRow.holds Try.pinned (OpenSpec.ofChange fnExactTakeOutSpec)

/-- ITS FALSE NEIGHBOUR: 'it returns false'. Refute it at one input. -/
def fnExactTakeOutWrong : ChangeSpec := { name := "fnExactTakeOut", fn := fun _ => fun
  | [d1, d2] => { results := [.lit (.bool false)], args := [d1, d2] }
  | _ => none }
def FnExactTakeOutWrongFalsely : Prop := fnExactTakeOutRow.holds Try.pinned (OpenSpec.ofChange fnExactTakeOutWrong)

/- THE SECOND FORM. 'bulk': how many values and letters a reading holds, each counted each time it is reached (what is shared counts as often as it is met; a slice's spare places count too). A statement '..UptoSaid' is the law's where the arguments, and the package variables that the reading takes, are together of bulk at most 1048576: NARROWER than '..Said'. Prove '..Said' where nothing that the law and all that it calls make is longer than what came in: it says more and counts as full. Else prove '..UptoSaid'. A law counts once. -/
mutual
def uptoBulk {H : Type} : DataW H → Nat
  | .lit (.string bytes) => bytes.length + 1
  | .lit _ => 1
  | .nil => 1
  | .ptr d => uptoBulk d + 1
  | .slice elems spare => uptoBulkAll elems + uptoBulkAll spare + 1
  | .agg parts => uptoBulkAll parts + 1
  | .iface _ d => uptoBulk d + 1
  | .map entries => uptoBulkEntries entries + 1
  | .held _ => 1
def uptoBulkAll {H : Type} : List (DataW H) → Nat
  | [] => 0
  | d :: r => uptoBulk d + uptoBulkAll r
def uptoBulkEntries {H : Type} : List (Lit × DataW H) → Nat
  | [] => 0
  | x :: r => uptoBulkEntry x + uptoBulkEntries r
def uptoBulkEntry {H : Type} : Lit × DataW H → Nat
  | (.string bytes, d) => bytes.length + uptoBulk d + 1
  | (_, d) => uptoBulk d + 1
 end
def uptoSmall : (H : Type) → List (DataW H) → Bool := fun _ ds => decide (uptoBulkAll ds ≤ 1048576)
def OpenSpec.upto (s : _root_.Go.ChangeSpec) : _root_.Go.OpenSpec := { _root_.Go.OpenSpec.ofChange s with cond := some uptoSmall }

/-- 'laws.FnExactWalks', WHERE WHAT IT READS IS OF BULK AT MOST 1048576: true; the input reads as it did. -/
def fnExactWalksUptoRow : OpenClaim := { program := "ytblfonlminnpmaa", sum := "2367735cdaa9ca974d1b402d83da9800d01011138cb9323328380e9c9001751a", func := "loop.example/g00475/laws.FnExactWalks", spec := "fnExactWalks", apart := false, narrowed := true }
def FnExactWalksUptoSaid : Prop := fnExactWalksUptoRow.holds Try.pinned (OpenSpec.upto fnExactWalksSpec)

/-- 'laws.FnExactNodeOf', WHERE WHAT IT READS IS OF BULK AT MOST 1048576: true; the input reads as it did. -/
def fnExactNodeOfUptoRow : OpenClaim := { program := "ytblfonlminnpmaa", sum := "2367735cdaa9ca974d1b402d83da9800d01011138cb9323328380e9c9001751a", func := "loop.example/g00475/laws.FnExactNodeOf", spec := "fnExactNodeOf", apart := false, narrowed := true }
def FnExactNodeOfUptoSaid : Prop := fnExactNodeOfUptoRow.holds Try.pinned (OpenSpec.upto fnExactNodeOfSpec)

/-- 'laws.FnExactPhaseName', WHERE WHAT IT READS IS OF BULK AT MOST 1048576: true; the input reads as it did. -/
def fnExactPhaseNameUptoRow : OpenClaim := { program := "ytblfonlminnpmaa", sum := "2367735cdaa9ca974d1b402d83da9800d01011138cb9323328380e9c9001751a", func := "loop.example/g00475/laws.FnExactPhaseName", spec := "fnExactPhaseName", apart := false, narrowed := true }
def FnExactPhaseNameUptoSaid : Prop := fnExactPhaseNameUptoRow.holds Try.pinned (OpenSpec.upto fnExactPhaseNameSpec)

/-- 'laws.FnExactNextOk', WHERE WHAT IT READS IS OF BULK AT MOST 1048576: true; the input reads as it did. -/
def fnExactNextOkUptoRow : OpenClaim := { program := "ytblfonlminnpmaa", sum := "2367735cdaa9ca974d1b402d83da9800d01011138cb9323328380e9c9001751a", func := "loop.example/g00475/laws.FnExactNextOk", spec := "fnExactNextOk", apart := false, narrowed := true }
def FnExactNextOkUptoSaid : Prop := fnExactNextOkUptoRow.holds Try.pinned (OpenSpec.upto fnExactNextOkSpec)

/-- 'laws.FnExactPhaseOf', WHERE WHAT IT READS IS OF BULK AT MOST 1048576: true; the input reads as it did. -/
def fnExactPhaseOfUptoRow : OpenClaim := { program := "ytblfonlminnpmaa", sum := "2367735cdaa9ca974d1b402d83da9800d01011138cb9323328380e9c9001751a", func := "loop.example/g00475/laws.FnExactPhaseOf", spec := "fnExactPhaseOf", apart := false, narrowed := true }
def FnExactPhaseOfUptoSaid : Prop := fnExactPhaseOfUptoRow.holds Try.pinned (OpenSpec.upto fnExactPhaseOfSpec)

/-- 'laws.FnExactMsgOk', WHERE WHAT IT READS IS OF BULK AT MOST 1048576: true; the input reads as it did. -/
def fnExactMsgOkUptoRow : OpenClaim := { program := "ytblfonlminnpmaa", sum := "2367735cdaa9ca974d1b402d83da9800d01011138cb9323328380e9c9001751a", func := "loop.example/g00475/laws.FnExactMsgOk", spec := "fnExactMsgOk", apart := false, narrowed := true }
def FnExactMsgOkUptoSaid : Prop := fnExactMsgOkUptoRow.holds Try.pinned (OpenSpec.upto fnExactMsgOkSpec)

/-- 'laws.FnExactReaches', WHERE WHAT IT READS IS OF BULK AT MOST 1048576: true; the input reads as it did. -/
def fnExactReachesUptoRow : OpenClaim := { program := "ytblfonlminnpmaa", sum := "2367735cdaa9ca974d1b402d83da9800d01011138cb9323328380e9c9001751a", func := "loop.example/g00475/laws.FnExactReaches", spec := "fnExactReaches", recurses := true, apart := false, narrowed := true }
def FnExactReachesUptoSaid : Prop := fnExactReachesUptoRow.holds Try.pinned (OpenSpec.upto fnExactReachesSpec)

/-- 'laws.FnExactLeadOk', WHERE WHAT IT READS IS OF BULK AT MOST 1048576: true; the input reads as it did. -/
def fnExactLeadOkUptoRow : OpenClaim := { program := "ytblfonlminnpmaa", sum := "2367735cdaa9ca974d1b402d83da9800d01011138cb9323328380e9c9001751a", func := "loop.example/g00475/laws.FnExactLeadOk", spec := "fnExactLeadOk", apart := false, narrowed := true }
def FnExactLeadOkUptoSaid : Prop := fnExactLeadOkUptoRow.holds Try.pinned (OpenSpec.upto fnExactLeadOkSpec)

/-- 'laws.FnExactNetOk', WHERE WHAT IT READS IS OF BULK AT MOST 1048576: true; the input reads as it did. -/
def fnExactNetOkUptoRow : OpenClaim := { program := "ytblfonlminnpmaa", sum := "2367735cdaa9ca974d1b402d83da9800d01011138cb9323328380e9c9001751a", func := "loop.example/g00475/laws.FnExactNetOk", spec := "fnExactNetOk", apart := false, narrowed := true }
def FnExactNetOkUptoSaid : Prop := fnExactNetOkUptoRow.holds Try.pinned (OpenSpec.upto fnExactNetOkSpec)

/-- 'laws.FnExactLeadNew', WHERE WHAT IT READS IS OF BULK AT MOST 1048576: true; the input reads as it did. -/
def fnExactLeadNewUptoRow : OpenClaim := { program := "ytblfonlminnpmaa", sum := "2367735cdaa9ca974d1b402d83da9800d01011138cb9323328380e9c9001751a", func := "loop.example/g00475/laws.FnExactLeadNew", spec := "fnExactLeadNew", apart := false, narrowed := true }
def FnExactLeadNewUptoSaid : Prop := fnExactLeadNewUptoRow.holds Try.pinned (OpenSpec.upto fnExactLeadNewSpec)

/-- 'laws.FnExactPutMsg', WHERE WHAT IT READS IS OF BULK AT MOST 1048576: true; the input reads as it did. -/
def fnExactPutMsgUptoRow : OpenClaim := { program := "ytblfonlminnpmaa", sum := "2367735cdaa9ca974d1b402d83da9800d01011138cb9323328380e9c9001751a", func := "loop.example/g00475/laws.FnExactPutMsg", spec := "fnExactPutMsg", apart := false, narrowed := true }
def FnExactPutMsgUptoSaid : Prop := fnExactPutMsgUptoRow.holds Try.pinned (OpenSpec.upto fnExactPutMsgSpec)

/-- 'laws.FnExactTakeOut', WHERE WHAT IT READS IS OF BULK AT MOST 1048576: true; the input reads as it did. -/
def fnExactTakeOutUptoRow : OpenClaim := { program := "ytblfonlminnpmaa", sum := "2367735cdaa9ca974d1b402d83da9800d01011138cb9323328380e9c9001751a", func := "loop.example/g00475/laws.FnExactTakeOut", spec := "fnExactTakeOut", apart := false, narrowed := true }
def FnExactTakeOutUptoSaid : Prop := fnExactTakeOutUptoRow.holds Try.pinned (OpenSpec.upto fnExactTakeOutSpec)

end Rows
end Go.Proofs.Ytblfonlminnpmaa
