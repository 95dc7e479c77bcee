/-
  No cell of these rows narrows 'for every input' (looked for: loops, veiled, ifaces, maps, wideKeys, modest, calm, conditions, laid).
  DERIVED. THE GIVEN ROWS OF THIS SEAT. 8 by the template 'for every input the law returns true; each argument reads behind the call as it read before'; 0 by the template 'total and deterministic' (their statements: YtbgmbggodapnmaaTotals.lean).
  GIVEN WITH THE SEED: the statements are not yours to turn. If you find one false, say at which input.
  Laid BY PROGRAM, IN A SANDBOX (cutbox-rows.mjs): the forced cells as the released guide's own fill.sh prints them over the translation da61d53cc5dde101… (all of the seat's roots in one cut). By AI agents, Wed Nov 11 2026. No macro, syntax, notation, axiom, sorry.
-/
import Derived.Test.YtbgmbggodapnmaaChecked
import GoSem.Claim
import GoSem.ClaimJoined
import GoSem.ClaimMapViews
import Derived.JoinedTies
import Derived.KernelRfl
namespace Go.Proofs.Ytbgmbggodapnmaa
/- THE CELL 'sum', in the pinned program and in every row, IS THE sha256 OF THE DUMP (.gsa) THAT YtbgmbggodapnmaaProg.lean LOADS. Nothing in Lean hashes anything: it is a label: what it is worth is what the hold of that sum in a sandbox is worth. -/
noncomputable def Try.pinned : Pinned := { name := "ytbgmbggodapnmaa", sum := "da61d53cc5dde1013595ec1e3f5585fc13b97d1685d11c7a423a2dd6aa125a5b", checked := Try.checked }
namespace Rows
def none {H : Type} : Left H := { results := [], args := [] }

/-- 'laws.FnExactPutMsg': WHATEVER THE INPUT: true; the input reads as it did. -/
def fnExactPutMsgSpec : ChangeSpec := { name := "fnExactPutMsg", fn := fun _ => fun
  | [d] => { results := [.lit (.bool true)], args := [d] }
  | _ => none }
def fnExactPutMsgRow : OpenClaim := { program := "ytbgmbggodapnmaa", sum := "da61d53cc5dde1013595ec1e3f5585fc13b97d1685d11c7a423a2dd6aa125a5b", func := "loop.example/g00475/laws.FnExactPutMsg", spec := "fnExactPutMsg", apart := false }
def FnExactPutMsgSaid : Prop := fnExactPutMsgRow.holds Try.pinned (OpenSpec.ofChange fnExactPutMsgSpec)

/-- ITS FALSE NEIGHBOUR: 'it returns false'. Refute it at one input. -/
def fnExactPutMsgWrong : ChangeSpec := { name := "fnExactPutMsg", fn := fun _ => fun
  | [d] => { results := [.lit (.bool false)], args := [d] }
  | _ => none }
def FnExactPutMsgWrongFalsely : Prop := fnExactPutMsgRow.holds Try.pinned (OpenSpec.ofChange fnExactPutMsgWrong)

/-- 'laws.FnExactGetMsg': WHATEVER THE INPUT: true; the input reads as it did. -/
def fnExactGetMsgSpec : ChangeSpec := { name := "fnExactGetMsg", fn := fun _ => fun
  | [d] => { results := [.lit (.bool true)], args := [d] }
  | _ => none }
def fnExactGetMsgRow : OpenClaim := { program := "ytbgmbggodapnmaa", sum := "da61d53cc5dde1013595ec1e3f5585fc13b97d1685d11c7a423a2dd6aa125a5b", func := "loop.example/g00475/laws.FnExactGetMsg", spec := "fnExactGetMsg", apart := false }
def FnExactGetMsgSaid : Prop := fnExactGetMsgRow.holds Try.pinned (OpenSpec.ofChange fnExactGetMsgSpec)

/-- ITS FALSE NEIGHBOUR: 'it returns false'. Refute it at one input. -/
def fnExactGetMsgWrong : ChangeSpec := { name := "fnExactGetMsg", fn := fun _ => fun
  | [d] => { results := [.lit (.bool false)], args := [d] }
  | _ => none }
def FnExactGetMsgWrongFalsely : Prop := fnExactGetMsgRow.holds Try.pinned (OpenSpec.ofChange fnExactGetMsgWrong)

/-- 'laws.FnExactSend': WHATEVER THE INPUT: true; the input reads as it did. -/
def fnExactSendSpec : ChangeSpec := { name := "fnExactSend", fn := fun _ => fun
  | [d1, d2] => { results := [.lit (.bool true)], args := [d1, d2] }
  | _ => none }
def fnExactSendRow : OpenClaim := { program := "ytbgmbggodapnmaa", sum := "da61d53cc5dde1013595ec1e3f5585fc13b97d1685d11c7a423a2dd6aa125a5b", func := "loop.example/g00475/laws.FnExactSend", spec := "fnExactSend", apart := false }
def FnExactSendSaid : Prop := fnExactSendRow.holds Try.pinned (OpenSpec.ofChange fnExactSendSpec)

/-- ITS FALSE NEIGHBOUR: 'it returns false'. Refute it at one input. -/
def fnExactSendWrong : ChangeSpec := { name := "fnExactSend", fn := fun _ => fun
  | [d1, d2] => { results := [.lit (.bool false)], args := [d1, d2] }
  | _ => none }
def FnExactSendWrongFalsely : Prop := fnExactSendRow.holds Try.pinned (OpenSpec.ofChange fnExactSendWrong)

/-- 'laws.FnExactSendAll': WHATEVER THE INPUT: true; the input reads as it did. -/
def fnExactSendAllSpec : ChangeSpec := { name := "fnExactSendAll", fn := fun _ => fun
  | [d1, d2] => { results := [.lit (.bool true)], args := [d1, d2] }
  | _ => none }
def fnExactSendAllRow : OpenClaim := { program := "ytbgmbggodapnmaa", sum := "da61d53cc5dde1013595ec1e3f5585fc13b97d1685d11c7a423a2dd6aa125a5b", func := "loop.example/g00475/laws.FnExactSendAll", spec := "fnExactSendAll", apart := false }
def FnExactSendAllSaid : Prop := fnExactSendAllRow.holds Try.pinned (OpenSpec.ofChange fnExactSendAllSpec)

/-- ITS FALSE NEIGHBOUR: 'it returns false'. Refute it at one input. -/
def fnExactSendAllWrong : ChangeSpec := { name := "fnExactSendAll", fn := fun _ => fun
  | [d1, d2] => { results := [.lit (.bool false)], args := [d1, d2] }
  | _ => none }
def FnExactSendAllWrongFalsely : Prop := fnExactSendAllRow.holds Try.pinned (OpenSpec.ofChange fnExactSendAllWrong)

/-- 'laws.FnExactTwice': WHATEVER THE INPUT: true; the input reads as it did. -/
def fnExactTwiceSpec : ChangeSpec := { name := "fnExactTwice", fn := fun _ => fun
  | [d1, d2] => { results := [.lit (.bool true)], args := [d1, d2] }
  | _ => none }
def fnExactTwiceRow : OpenClaim := { program := "ytbgmbggodapnmaa", sum := "da61d53cc5dde1013595ec1e3f5585fc13b97d1685d11c7a423a2dd6aa125a5b", func := "loop.example/g00475/laws.FnExactTwice", spec := "fnExactTwice", apart := false }
def FnExactTwiceSaid : Prop := fnExactTwiceRow.holds Try.pinned (OpenSpec.ofChange fnExactTwiceSpec)

/-- ITS FALSE NEIGHBOUR: 'it returns false'. Refute it at one input. -/
def fnExactTwiceWrong : ChangeSpec := { name := "fnExactTwice", fn := fun _ => fun
  | [d1, d2] => { results := [.lit (.bool false)], args := [d1, d2] }
  | _ => none }
def FnExactTwiceWrongFalsely : Prop := fnExactTwiceRow.holds Try.pinned (OpenSpec.ofChange fnExactTwiceWrong)

/-- 'laws.FnExactTakeOut': WHATEVER THE INPUT: true; the input reads as it did. -/
def fnExactTakeOutSpec : ChangeSpec := { name := "fnExactTakeOut", fn := fun _ => fun
  | [d1, d2] => { results := [.lit (.bool true)], args := [d1, d2] }
  | _ => none }
def fnExactTakeOutRow : OpenClaim := { program := "ytbgmbggodapnmaa", sum := "da61d53cc5dde1013595ec1e3f5585fc13b97d1685d11c7a423a2dd6aa125a5b", func := "loop.example/g00475/laws.FnExactTakeOut", spec := "fnExactTakeOut", apart := false }
def FnExactTakeOutSaid : Prop := fnExactTakeOutRow.holds Try.pinned (OpenSpec.ofChange fnExactTakeOutSpec)

/-- ITS FALSE NEIGHBOUR: 'it returns false'. Refute it at one input. -/
def fnExactTakeOutWrong : ChangeSpec := { name := "fnExactTakeOut", fn := fun _ => fun
  | [d1, d2] => { results := [.lit (.bool false)], args := [d1, d2] }
  | _ => none }
def FnExactTakeOutWrongFalsely : Prop := fnExactTakeOutRow.holds Try.pinned (OpenSpec.ofChange fnExactTakeOutWrong)

/-- 'laws.FnNets': WHATEVER THE INPUT: true; the input reads as it did. -/
def fnNetsSpec : ChangeSpec := { name := "fnNets", fn := fun _ => fun
  | [d] => { results := [.lit (.bool true)], args := [d] }
  | _ => none }
def fnNetsRow : OpenClaim := { program := "ytbgmbggodapnmaa", sum := "da61d53cc5dde1013595ec1e3f5585fc13b97d1685d11c7a423a2dd6aa125a5b", func := "loop.example/g00475/laws.FnNets", spec := "fnNets", apart := false }
def FnNetsSaid : Prop := fnNetsRow.holds Try.pinned (OpenSpec.ofChange fnNetsSpec)

/-- ITS FALSE NEIGHBOUR: 'it returns false'. Refute it at one input. -/
def fnNetsWrong : ChangeSpec := { name := "fnNets", fn := fun _ => fun
  | [d] => { results := [.lit (.bool false)], args := [d] }
  | _ => none }
def FnNetsWrongFalsely : Prop := fnNetsRow.holds Try.pinned (OpenSpec.ofChange fnNetsWrong)

/-- 'laws.FnMsgs': WHATEVER THE INPUT: true; the input reads as it did. -/
def fnMsgsSpec : ChangeSpec := { name := "fnMsgs", fn := fun _ => fun
  | [d] => { results := [.lit (.bool true)], args := [d] }
  | _ => none }
def fnMsgsRow : OpenClaim := { program := "ytbgmbggodapnmaa", sum := "da61d53cc5dde1013595ec1e3f5585fc13b97d1685d11c7a423a2dd6aa125a5b", func := "loop.example/g00475/laws.FnMsgs", spec := "fnMsgs", apart := false }
def FnMsgsSaid : Prop := fnMsgsRow.holds Try.pinned (OpenSpec.ofChange fnMsgsSpec)

/-- ITS FALSE NEIGHBOUR: 'it returns false'. Refute it at one input. -/
def fnMsgsWrong : ChangeSpec := { name := "fnMsgs", fn := fun _ => fun
  | [d] => { results := [.lit (.bool false)], args := [d] }
  | _ => none }
def FnMsgsWrongFalsely : Prop := fnMsgsRow.holds Try.pinned (OpenSpec.ofChange fnMsgsWrong)

/- THE SECOND FORM. 'bulk': how many values and letters a reading holds, each counted each time it is reached (what is shared counts as often as it is met; a slice's spare places count too). A statement '..UptoSaid' is the law's where the arguments, and the package variables that the reading takes, are together of bulk at most 1048576: NARROWER than '..Said'. Prove '..Said' where nothing that the law and all that it calls make is longer than what came in: it says more and counts as full. Else prove '..UptoSaid'. A law counts once. -/
mutual
def uptoBulk {H : Type} : DataW H → Nat
  | .lit (.string bytes) => bytes.length + 1
  | .lit _ => 1
  | .nil => 1
  | .ptr d => uptoBulk d + 1
  | .slice elems spare => uptoBulkAll elems + uptoBulkAll spare + 1
  | .agg parts => uptoBulkAll parts + 1
  | .iface _ d => uptoBulk d + 1
  | .map entries => uptoBulkEntries entries + 1
  | .held _ => 1
def uptoBulkAll {H : Type} : List (DataW H) → Nat
  | [] => 0
  | d :: r => uptoBulk d + uptoBulkAll r
def uptoBulkEntries {H : Type} : List (Lit × DataW H) → Nat
  | [] => 0
  | x :: r => uptoBulkEntry x + uptoBulkEntries r
def uptoBulkEntry {H : Type} : Lit × DataW H → Nat
  | (.string bytes, d) => bytes.length + uptoBulk d + 1
  | (_, d) => uptoBulk d + 1
 end
def uptoSmall : (H : Type) → List (DataW H) → Bool := fun _ ds => decide (uptoBulkAll ds ≤ 1048576)
def OpenSpec.upto (s : _root_.Go.ChangeSpec) : _root_.Go.OpenSpec := { _root_.Go.OpenSpec.ofChange s with cond := some uptoSmall }

/-- 'laws.FnExactPutMsg', WHERE WHAT IT READS IS OF BULK AT MOST 1048576: true; the input reads as it did. -/
def fnExactPutMsgUptoRow : OpenClaim := { program := "ytbgmbggodapnmaa", sum := "da61d53cc5dde1013595ec1e3f5585fc13b97d1685d11c7a423a2dd6aa125a5b", func := "loop.example/g00475/laws.FnExactPutMsg", spec := "fnExactPutMsg", apart := false, narrowed := true }
def FnExactPutMsgUptoSaid : Prop := fnExactPutMsgUptoRow.holds Try.pinned (OpenSpec.upto fnExactPutMsgSpec)

/-- 'laws.FnExactGetMsg', WHERE WHAT IT READS IS OF BULK AT MOST 1048576: true; the input reads as it did. -/
def fnExactGetMsgUptoRow : OpenClaim := { program := "ytbgmbggodapnmaa", sum := "da61d53cc5dde1013595ec1e3f5585fc13b97d1685d11c7a423a2dd6aa125a5b", func := "loop.example/g00475/laws.FnExactGetMsg", spec := "fnExactGetMsg", apart := false, narrowed := true }
def FnExactGetMsgUptoSaid : Prop := fnExactGetMsgUptoRow.holds Try.pinned (OpenSpec.upto fnExactGetMsgSpec)

/-- 'laws.FnExactSend', WHERE WHAT IT READS IS OF BULK AT MOST 1048576: true; the input reads as it did. -/
def fnExactSendUptoRow : OpenClaim := { program := "ytbgmbggodapnmaa", sum := "da61d53cc5dde1013595ec1e3f5585fc13b97d1685d11c7a423a2dd6aa125a5b", func := "loop.example/g00475/laws.FnExactSend", spec := "fnExactSend", apart := false, narrowed := true }
def FnExactSendUptoSaid : Prop := fnExactSendUptoRow.holds Try.pinned (OpenSpec.upto fnExactSendSpec)

/-- 'laws.FnExactSendAll', WHERE WHAT IT READS IS OF BULK AT MOST 1048576: true; the input reads as it did. -/
def fnExactSendAllUptoRow : OpenClaim := { program := "ytbgmbggodapnmaa", sum := "da61d53cc5dde1013595ec1e3f5585fc13b97d1685d11c7a423a2dd6aa125a5b", func := "loop.example/g00475/laws.FnExactSendAll", spec := "fnExactSendAll", apart := false, narrowed := true }
def FnExactSendAllUptoSaid : Prop := fnExactSendAllUptoRow.holds Try.pinned (OpenSpec.upto fnExactSendAllSpec)

/-- 'laws.FnExactTwice', WHERE WHAT IT READS IS OF BULK AT MOST 1048576: true; the input reads as it did. -/
def fnExactTwiceUptoRow : OpenClaim := { program := "ytbgmbggodapnmaa", sum := "da61d53cc5dde1013595ec1e3f5585fc13b97d1685d11c7a423a2dd6aa125a5b", func := "loop.example/g00475/laws.FnExactTwice", spec := "fnExactTwice", apart := false, narrowed := true }
def FnExactTwiceUptoSaid : Prop := fnExactTwiceUptoRow.holds Try.pinned (OpenSpec.upto fnExactTwiceSpec)

/-- 'laws.FnExactTakeOut', WHERE WHAT IT READS IS OF BULK AT MOST 1048576: true; the input reads as it did. -/
def fnExactTakeOutUptoRow : OpenClaim := { program := "ytbgmbggodapnmaa", sum := "da61d53cc5dde1013595ec1e3f5585fc13b97d1685d11c7a423a2dd6aa125a5b", func := "loop.example/g00475/laws.FnExactTakeOut", spec := "fnExactTakeOut", apart := false, narrowed := true }
def FnExactTakeOutUptoSaid : Prop := fnExactTakeOutUptoRow.holds Try.pinned (OpenSpec.upto fnExactTakeOutSpec)

/-- 'laws.FnNets', WHERE WHAT IT READS IS OF BULK AT MOST 1048576: true; the input reads as it did. -/
def fnNetsUptoRow : OpenClaim := { program := "ytbgmbggodapnmaa", sum := "da61d53cc5dde1013595ec1e3f5585fc13b97d1685d11c7a423a2dd6aa125a5b", func := "loop.example/g00475/laws.FnNets", spec := "fnNets", apart := false, narrowed := true }
def FnNetsUptoSaid : Prop := fnNetsUptoRow.holds Try.pinned (OpenSpec.upto fnNetsSpec)

/-- 'laws.FnMsgs', WHERE WHAT IT READS IS OF BULK AT MOST 1048576: true; the input reads as it did. -/
def fnMsgsUptoRow : OpenClaim := { program := "ytbgmbggodapnmaa", sum := "da61d53cc5dde1013595ec1e3f5585fc13b97d1685d11c7a423a2dd6aa125a5b", func := "loop.example/g00475/laws.FnMsgs", spec := "fnMsgs", apart := false, narrowed := true }
def FnMsgsUptoSaid : Prop := fnMsgsUptoRow.holds Try.pinned (OpenSpec.upto fnMsgsSpec)

end Rows
end Go.Proofs.Ytbgmbggodapnmaa
