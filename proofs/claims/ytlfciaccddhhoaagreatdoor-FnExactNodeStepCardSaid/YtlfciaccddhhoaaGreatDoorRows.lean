/-
  NARROWER THAN 'FOR EVERY INPUT', by the rows' own cells (each row's printed sentence says how): FnExactNodeLoad: laid · FnExactNodePhase: laid · FnExactNodeDel: laid · FnExactNodePut: laid · FnExactNodeStep: laid.
  DERIVED. THE GIVEN ROWS OF THIS SEAT. 5 by the template 'for every input the law returns true; each argument reads behind the call as it read before'; 0 by the template 'total and deterministic' (their statements: YtlfciaccddhhoaaGreatDoorTotals.lean).
  GIVEN WITH THE SEED: the statements are not yours to turn. If you find one false, say at which input.
  Laid BY PROGRAM, IN A SANDBOX (cutbox-rows.mjs): the forced cells as the released guide's own fill.sh prints them over the translation 8f7d4bf3bf9a7796… (all of the seat's roots in one cut). By AI agents, Wed Nov 11 2026. No macro, syntax, notation, axiom, sorry.
-/
import Derived.Test.YtlfciaccddhhoaaGreatDoorChecked
import GoSem.PinnedTables
import GoSem.Claim
import GoSem.ClaimJoined
import GoSem.ClaimMapViews
import Derived.JoinedTies
import Derived.KernelRfl
namespace Go.Proofs.YtlfciaccddhhoaaGreatDoor
/- THE CELL 'sum', in the pinned program and in every row, IS THE sha256 OF THE DUMP (.gsa) THAT YtlfciaccddhhoaaGreatDoorProg.lean LOADS. Nothing in Lean hashes anything: it is a label: what it is worth is what the hold of that sum in a sandbox is worth. -/
noncomputable def Tryz.pinned : Pinned := { name := "ytlfciaccddhhoaagreatdoor", sum := "8f7d4bf3bf9a7796d2c53dd9cace23a7e9ee7ef24232054fa42e3dc55e8e97f7", checked := Tryz.checked }
namespace Rows
def none {H : Type} : Left H := { results := [], args := [] }

/- WHAT THE LISTED PACKAGE-LEVEL VARIABLES READ AS WHEN THE CALL BEGINS. Each datum BY PROGRAM (the guide's laid-datum.mjs) off the statement by which the dump's own 'gosem.cut.vars' lays the variable. In a bare row this is a premise. The card (YtlfciaccddhhoaaGreatDoorCards.lean) ties it to the program's text. -/
def laid_unicode_utf8_acceptRanges {H : Type} : DataW H := .agg [.agg [.lit (.int .u8 128), .lit (.int .u8 191)], .agg [.lit (.int .u8 160), .lit (.int .u8 191)], .agg [.lit (.int .u8 128), .lit (.int .u8 159)], .agg [.lit (.int .u8 144), .lit (.int .u8 191)], .agg [.lit (.int .u8 128), .lit (.int .u8 143)], .agg [.lit (.int .u8 0), .lit (.int .u8 0)], .agg [.lit (.int .u8 0), .lit (.int .u8 0)], .agg [.lit (.int .u8 0), .lit (.int .u8 0)], .agg [.lit (.int .u8 0), .lit (.int .u8 0)], .agg [.lit (.int .u8 0), .lit (.int .u8 0)], .agg [.lit (.int .u8 0), .lit (.int .u8 0)], .agg [.lit (.int .u8 0), .lit (.int .u8 0)], .agg [.lit (.int .u8 0), .lit (.int .u8 0)], .agg [.lit (.int .u8 0), .lit (.int .u8 0)], .agg [.lit (.int .u8 0), .lit (.int .u8 0)], .agg [.lit (.int .u8 0), .lit (.int .u8 0)]]
/-- One of Go's own tables, pinned by name: the form's constant. -/
def laid_unicode_utf8_first : DataW Unit := Go.Pinned.utf8First

/-- 'laws.FnExactNodeLoad': WHATEVER THE INPUT: true; the input reads as it did. -/
def fnExactNodeLoadSpec : ChangeSpec := { name := "fnExactNodeLoad", fn := fun _ => fun
  | [d1, d2, d3] => { results := [.lit (.bool true)], args := [d1, d2, d3] }
  | _ => none }
def fnExactNodeLoadRow : OpenClaim := { program := "ytlfciaccddhhoaagreatdoor", sum := "8f7d4bf3bf9a7796d2c53dd9cace23a7e9ee7ef24232054fa42e3dc55e8e97f7", func := "loop.example/g00475/laws.FnExactNodeLoad", spec := "fnExactNodeLoad", unfollowed := true, recurses := true, named := ["unicode/utf8.first", "unicode/utf8.acceptRanges"], apart := false, laid := [("unicode/utf8.acceptRanges", laid_unicode_utf8_acceptRanges), ("unicode/utf8.first", laid_unicode_utf8_first)] }
def FnExactNodeLoadSaid : Prop := fnExactNodeLoadRow.holds Tryz.pinned (OpenSpec.ofChange fnExactNodeLoadSpec)

/-- ITS FALSE NEIGHBOUR: 'it returns false'. Refute it at one input. -/
def fnExactNodeLoadWrong : ChangeSpec := { name := "fnExactNodeLoad", fn := fun _ => fun
  | [d1, d2, d3] => { results := [.lit (.bool false)], args := [d1, d2, d3] }
  | _ => none }
def FnExactNodeLoadWrongFalsely : Prop := fnExactNodeLoadRow.holds Tryz.pinned (OpenSpec.ofChange fnExactNodeLoadWrong)

/-- 'laws.FnExactNodePhase': WHATEVER THE INPUT: true; the input reads as it did. -/
def fnExactNodePhaseSpec : ChangeSpec := { name := "fnExactNodePhase", fn := fun _ => fun
  | [d1, d2] => { results := [.lit (.bool true)], args := [d1, d2] }
  | _ => none }
def fnExactNodePhaseRow : OpenClaim := { program := "ytlfciaccddhhoaagreatdoor", sum := "8f7d4bf3bf9a7796d2c53dd9cace23a7e9ee7ef24232054fa42e3dc55e8e97f7", func := "loop.example/g00475/laws.FnExactNodePhase", spec := "fnExactNodePhase", unfollowed := true, recurses := true, named := ["unicode/utf8.first", "unicode/utf8.acceptRanges"], apart := false, laid := [("unicode/utf8.acceptRanges", laid_unicode_utf8_acceptRanges), ("unicode/utf8.first", laid_unicode_utf8_first)] }
def FnExactNodePhaseSaid : Prop := fnExactNodePhaseRow.holds Tryz.pinned (OpenSpec.ofChange fnExactNodePhaseSpec)

/-- ITS FALSE NEIGHBOUR: 'it returns false'. Refute it at one input. -/
def fnExactNodePhaseWrong : ChangeSpec := { name := "fnExactNodePhase", fn := fun _ => fun
  | [d1, d2] => { results := [.lit (.bool false)], args := [d1, d2] }
  | _ => none }
def FnExactNodePhaseWrongFalsely : Prop := fnExactNodePhaseRow.holds Tryz.pinned (OpenSpec.ofChange fnExactNodePhaseWrong)

/-- 'laws.FnExactNodeDel': WHATEVER THE INPUT: true; the input reads as it did. -/
def fnExactNodeDelSpec : ChangeSpec := { name := "fnExactNodeDel", fn := fun _ => fun
  | [d1, d2, d3, d4] => { results := [.lit (.bool true)], args := [d1, d2, d3, d4] }
  | _ => none }
def fnExactNodeDelRow : OpenClaim := { program := "ytlfciaccddhhoaagreatdoor", sum := "8f7d4bf3bf9a7796d2c53dd9cace23a7e9ee7ef24232054fa42e3dc55e8e97f7", func := "loop.example/g00475/laws.FnExactNodeDel", spec := "fnExactNodeDel", unfollowed := true, recurses := true, named := ["unicode/utf8.first", "unicode/utf8.acceptRanges"], apart := false, laid := [("unicode/utf8.acceptRanges", laid_unicode_utf8_acceptRanges), ("unicode/utf8.first", laid_unicode_utf8_first)] }
def FnExactNodeDelSaid : Prop := fnExactNodeDelRow.holds Tryz.pinned (OpenSpec.ofChange fnExactNodeDelSpec)

/-- ITS FALSE NEIGHBOUR: 'it returns false'. Refute it at one input. -/
def fnExactNodeDelWrong : ChangeSpec := { name := "fnExactNodeDel", fn := fun _ => fun
  | [d1, d2, d3, d4] => { results := [.lit (.bool false)], args := [d1, d2, d3, d4] }
  | _ => none }
def FnExactNodeDelWrongFalsely : Prop := fnExactNodeDelRow.holds Tryz.pinned (OpenSpec.ofChange fnExactNodeDelWrong)

/-- 'laws.FnExactNodePut': WHATEVER THE INPUT: true; the input reads as it did. -/
def fnExactNodePutSpec : ChangeSpec := { name := "fnExactNodePut", fn := fun _ => fun
  | [d1, d2, d3, d4, d5] => { results := [.lit (.bool true)], args := [d1, d2, d3, d4, d5] }
  | _ => none }
def fnExactNodePutRow : OpenClaim := { program := "ytlfciaccddhhoaagreatdoor", sum := "8f7d4bf3bf9a7796d2c53dd9cace23a7e9ee7ef24232054fa42e3dc55e8e97f7", func := "loop.example/g00475/laws.FnExactNodePut", spec := "fnExactNodePut", unfollowed := true, recurses := true, named := ["unicode/utf8.first", "unicode/utf8.acceptRanges"], apart := false, laid := [("unicode/utf8.acceptRanges", laid_unicode_utf8_acceptRanges), ("unicode/utf8.first", laid_unicode_utf8_first)] }
def FnExactNodePutSaid : Prop := fnExactNodePutRow.holds Tryz.pinned (OpenSpec.ofChange fnExactNodePutSpec)

/-- ITS FALSE NEIGHBOUR: 'it returns false'. Refute it at one input. -/
def fnExactNodePutWrong : ChangeSpec := { name := "fnExactNodePut", fn := fun _ => fun
  | [d1, d2, d3, d4, d5] => { results := [.lit (.bool false)], args := [d1, d2, d3, d4, d5] }
  | _ => none }
def FnExactNodePutWrongFalsely : Prop := fnExactNodePutRow.holds Tryz.pinned (OpenSpec.ofChange fnExactNodePutWrong)

/-- 'laws.FnExactNodeStep': WHATEVER THE INPUT: true; the input reads as it did. -/
def fnExactNodeStepSpec : ChangeSpec := { name := "fnExactNodeStep", fn := fun _ => fun
  | [d1, d2] => { results := [.lit (.bool true)], args := [d1, d2] }
  | _ => none }
def fnExactNodeStepRow : OpenClaim := { program := "ytlfciaccddhhoaagreatdoor", sum := "8f7d4bf3bf9a7796d2c53dd9cace23a7e9ee7ef24232054fa42e3dc55e8e97f7", func := "loop.example/g00475/laws.FnExactNodeStep", spec := "fnExactNodeStep", unfollowed := true, recurses := true, named := ["unicode/utf8.first", "unicode/utf8.acceptRanges"], apart := false, laid := [("unicode/utf8.acceptRanges", laid_unicode_utf8_acceptRanges), ("unicode/utf8.first", laid_unicode_utf8_first)] }
def FnExactNodeStepSaid : Prop := fnExactNodeStepRow.holds Tryz.pinned (OpenSpec.ofChange fnExactNodeStepSpec)

/-- ITS FALSE NEIGHBOUR: 'it returns false'. Refute it at one input. -/
def fnExactNodeStepWrong : ChangeSpec := { name := "fnExactNodeStep", fn := fun _ => fun
  | [d1, d2] => { results := [.lit (.bool false)], args := [d1, d2] }
  | _ => none }
def FnExactNodeStepWrongFalsely : Prop := fnExactNodeStepRow.holds Tryz.pinned (OpenSpec.ofChange fnExactNodeStepWrong)

/- THE SECOND FORM. 'bulk': how many values and letters a reading holds, each counted each time it is reached (what is shared counts as often as it is met; a slice's spare places count too). A statement '..UptoSaid' is the law's where the arguments, and the package variables that the reading takes, are together of bulk at most 1048576: NARROWER than '..Said'. Prove '..Said' where nothing that the law and all that it calls make is longer than what came in: it says more and counts as full. Else prove '..UptoSaid'. A law counts once. -/
mutual
def uptoBulk {H : Type} : DataW H → Nat
  | .lit (.string bytes) => bytes.length + 1
  | .lit _ => 1
  | .nil => 1
  | .ptr d => uptoBulk d + 1
  | .slice elems spare => uptoBulkAll elems + uptoBulkAll spare + 1
  | .agg parts => uptoBulkAll parts + 1
  | .iface _ d => uptoBulk d + 1
  | .map entries => uptoBulkEntries entries + 1
  | .held _ => 1
def uptoBulkAll {H : Type} : List (DataW H) → Nat
  | [] => 0
  | d :: r => uptoBulk d + uptoBulkAll r
def uptoBulkEntries {H : Type} : List (Lit × DataW H) → Nat
  | [] => 0
  | x :: r => uptoBulkEntry x + uptoBulkEntries r
def uptoBulkEntry {H : Type} : Lit × DataW H → Nat
  | (.string bytes, d) => bytes.length + uptoBulk d + 1
  | (_, d) => uptoBulk d + 1
 end
def uptoSmall : (H : Type) → List (DataW H) → Bool := fun _ ds => decide (uptoBulkAll ds ≤ 1048576)
def OpenSpec.upto (s : _root_.Go.ChangeSpec) : _root_.Go.OpenSpec := { _root_.Go.OpenSpec.ofChange s with cond := some uptoSmall }

/-- 'laws.FnExactNodeLoad', WHERE WHAT IT READS IS OF BULK AT MOST 1048576: true; the input reads as it did. -/
def fnExactNodeLoadUptoRow : OpenClaim := { program := "ytlfciaccddhhoaagreatdoor", sum := "8f7d4bf3bf9a7796d2c53dd9cace23a7e9ee7ef24232054fa42e3dc55e8e97f7", func := "loop.example/g00475/laws.FnExactNodeLoad", spec := "fnExactNodeLoad", unfollowed := true, recurses := true, named := ["unicode/utf8.first", "unicode/utf8.acceptRanges"], apart := false, laid := [("unicode/utf8.acceptRanges", laid_unicode_utf8_acceptRanges), ("unicode/utf8.first", laid_unicode_utf8_first)], narrowed := true }
def FnExactNodeLoadUptoSaid : Prop := fnExactNodeLoadUptoRow.holds Tryz.pinned (OpenSpec.upto fnExactNodeLoadSpec)

/-- 'laws.FnExactNodePhase', WHERE WHAT IT READS IS OF BULK AT MOST 1048576: true; the input reads as it did. -/
def fnExactNodePhaseUptoRow : OpenClaim := { program := "ytlfciaccddhhoaagreatdoor", sum := "8f7d4bf3bf9a7796d2c53dd9cace23a7e9ee7ef24232054fa42e3dc55e8e97f7", func := "loop.example/g00475/laws.FnExactNodePhase", spec := "fnExactNodePhase", unfollowed := true, recurses := true, named := ["unicode/utf8.first", "unicode/utf8.acceptRanges"], apart := false, laid := [("unicode/utf8.acceptRanges", laid_unicode_utf8_acceptRanges), ("unicode/utf8.first", laid_unicode_utf8_first)], narrowed := true }
def FnExactNodePhaseUptoSaid : Prop := fnExactNodePhaseUptoRow.holds Tryz.pinned (OpenSpec.upto fnExactNodePhaseSpec)

/-- 'laws.FnExactNodeDel', WHERE WHAT IT READS IS OF BULK AT MOST 1048576: true; the input reads as it did. -/
def fnExactNodeDelUptoRow : OpenClaim := { program := "ytlfciaccddhhoaagreatdoor", sum := "8f7d4bf3bf9a7796d2c53dd9cace23a7e9ee7ef24232054fa42e3dc55e8e97f7", func := "loop.example/g00475/laws.FnExactNodeDel", spec := "fnExactNodeDel", unfollowed := true, recurses := true, named := ["unicode/utf8.first", "unicode/utf8.acceptRanges"], apart := false, laid := [("unicode/utf8.acceptRanges", laid_unicode_utf8_acceptRanges), ("unicode/utf8.first", laid_unicode_utf8_first)], narrowed := true }
def FnExactNodeDelUptoSaid : Prop := fnExactNodeDelUptoRow.holds Tryz.pinned (OpenSpec.upto fnExactNodeDelSpec)

/-- 'laws.FnExactNodePut', WHERE WHAT IT READS IS OF BULK AT MOST 1048576: true; the input reads as it did. -/
def fnExactNodePutUptoRow : OpenClaim := { program := "ytlfciaccddhhoaagreatdoor", sum := "8f7d4bf3bf9a7796d2c53dd9cace23a7e9ee7ef24232054fa42e3dc55e8e97f7", func := "loop.example/g00475/laws.FnExactNodePut", spec := "fnExactNodePut", unfollowed := true, recurses := true, named := ["unicode/utf8.first", "unicode/utf8.acceptRanges"], apart := false, laid := [("unicode/utf8.acceptRanges", laid_unicode_utf8_acceptRanges), ("unicode/utf8.first", laid_unicode_utf8_first)], narrowed := true }
def FnExactNodePutUptoSaid : Prop := fnExactNodePutUptoRow.holds Tryz.pinned (OpenSpec.upto fnExactNodePutSpec)

/-- 'laws.FnExactNodeStep', WHERE WHAT IT READS IS OF BULK AT MOST 1048576: true; the input reads as it did. -/
def fnExactNodeStepUptoRow : OpenClaim := { program := "ytlfciaccddhhoaagreatdoor", sum := "8f7d4bf3bf9a7796d2c53dd9cace23a7e9ee7ef24232054fa42e3dc55e8e97f7", func := "loop.example/g00475/laws.FnExactNodeStep", spec := "fnExactNodeStep", unfollowed := true, recurses := true, named := ["unicode/utf8.first", "unicode/utf8.acceptRanges"], apart := false, laid := [("unicode/utf8.acceptRanges", laid_unicode_utf8_acceptRanges), ("unicode/utf8.first", laid_unicode_utf8_first)], narrowed := true }
def FnExactNodeStepUptoSaid : Prop := fnExactNodeStepUptoRow.holds Tryz.pinned (OpenSpec.upto fnExactNodeStepSpec)

end Rows
end Go.Proofs.YtlfciaccddhhoaaGreatDoor
